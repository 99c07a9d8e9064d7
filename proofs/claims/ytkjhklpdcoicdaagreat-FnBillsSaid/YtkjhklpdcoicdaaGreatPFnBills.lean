/- FnBills, plainly. -/
import Derived.Test.YtkjhklpdcoicdaaGreatQDPlanA
set_option linter.unusedSimpArgs false
set_option linter.unusedVariables false
namespace AT
/-! ### Draws -/
theorem one_ok {fu : Nat} {c : L1CurP} {k : Int} (hc : Cur c k) (hk : k ≤ 4611686018427387000) (n : Int) (hn : n ≤ 1099511627776) : ∃ r c', spec_l1Cur_one fu c n = some (r, c') ∧ Cur c' (k + 2) := by
  unfold spec_l1Cur_one
  obtain ⟨r, c', g1, -, -, g4⟩ := pick_ok (fu := fu) hc hk n hn
  rw [g1]
  exact ⟨_, _, rfl, g4⟩
theorem bill_in {fu : Nat} (kind : Int) : ∀ (fk n : Nat) (o : List Item) (m : List By) (a : Int) (s : U64) (k B : Int), n ≤ 4 → 4 - n < fk → Cur ⟨m, a, s⟩ k → k ≤ B - 4 * (4 - (n : Int)) → B ≤ 1000000 → o.length + (4 - n) ≤ 1000 →
    ∃ o' i' m' a' s', spec_l1Cur_bill_L2 fu kind fk o n m a s = some (o', i', m', a', s') ∧ Cur ⟨m', a', s'⟩ B ∧ o'.length ≤ o.length + (4 - n) := by
  intro fk
  induction fk with
  | zero => intro n _ _ _ _ _ _ _ h; omega
  | succ fk ih =>
    intro n o m a s k B hn hk hc hB hB2 ho
    rw [spec_l1Cur_bill_L2]
    by_cases h : n < 4
    · have h' : (n : Int) < 4 := by omega
      have hw : w64 ((n : Int) + 1) = ((n + 1 : Nat) : Int) := w64_inc h (by omega)
      obtain ⟨r, c', g1, g2⟩ := one_ok (fu := fu) hc (by omega) 3 (by omega)
      rw [if_pos (decide_eq_true h'), hw]
      clear hw
      simp only [g1, Option.bind_some]
      cases r
      · simp only [Bool.false_eq_true, if_false]
        obtain ⟨o', i', m', a', s', q1, q2, q3⟩ := ih (n + 1) o c'.code c'.at_ c'.seed (k + 2) B (by omega) (by omega) g2 (by omega) hB2 (by omega)
        exact ⟨o', i', m', a', s', q1, q2, by omega⟩
      · obtain ⟨v, c2, p1, -, p3⟩ := among_ok (fu := fu) g2 (by omega) [1, 2, 3, 10, 500] (by simp) (by simp)
        have ha : app o [(⟨kind, (n : Int), v⟩ : Item)] = some (o ++ [⟨kind, (n : Int), v⟩]) := app_ok (by simp; omega)
        simp only [if_true, p1, ha, Option.bind_some]
        obtain ⟨o', i', m', a', s', q1, q2, q3⟩ := ih (n + 1) (o ++ [⟨kind, (n : Int), v⟩]) c2.code c2.at_ c2.seed (k + 2 + 2) B (by omega) (by omega) p3 (by omega) hB2 (by simp; omega)
        rw [List.length_append, List.length_singleton] at q3
        exact ⟨o', i', m', a', s', q1, q2, by omega⟩
    · obtain rfl : n = 4 := by omega
      rw [if_neg (by simp)]
      exact ⟨_, _, _, _, _, rfl, hc.mono (by omega), by omega⟩
theorem bill_out {fu : Nat} (hfu : 2097153 ≤ fu) (B : Int) (hB0 : B ≤ 100000) : ∀ (fk n : Nat) (o : List Item) (m : List By) (a : Int) (s : U64) (k : Int), 1 ≤ n → n ≤ 5 → 5 - n < fk → Cur ⟨m, a, s⟩ k → k ≤ 100 * (n : Int) + B → o.length ≤ 10 * n →
    ∃ o' i' m' a' s', spec_l1Cur_bill_L1 fu fk o n m a s = some (o', i', m', a', s') ∧ Cur ⟨m', a', s'⟩ (B + 500) ∧ o'.length ≤ 50 := by
  intro fk
  induction fk with
  | zero => intro n _ _ _ _ _ _ _ h; omega
  | succ fk ih =>
    intro n o m a s k h1 hn hk hc hB ho
    rw [spec_l1Cur_bill_L1]
    by_cases h : n < 5
    · have h' : (n : Int) ≤ 4 := by omega
      have hw : w64 ((n : Int) + 1) = ((n + 1 : Nat) : Int) := w64_inc h (by omega)
      obtain ⟨o', i', m', a', s', q1, q2, q3⟩ := bill_in (fu := fu) (n : Int) fu 0 o m a s k (100 * (n : Int) + B + 50) (by omega) (by omega) hc (by omega) (by omega) (by omega)
      rw [show ((0 : Nat) : Int) = 0 from rfl] at q1
      rw [if_pos (decide_eq_true h'), hw, q1]
      clear hw
      exact ih (n + 1) o' m' a' s' _ (by omega) (by omega) (by omega) q2 (by omega) (by omega)
    · obtain rfl : n = 5 := by omega
      rw [if_neg (by simp)]
      exact ⟨_, _, _, _, _, rfl, hc.mono (by omega), by omega⟩
theorem bill_ok {fu : Nat} (hfu : 2097153 ≤ fu) {c : L1CurP} {k : Int} (hc : Cur c k) (hk : k ≤ 50000) : ∃ o c', spec_l1Cur_bill fu c = some (o, c') ∧ o.length ≤ 2097152 ∧ Cur c' (k + 1000) := by
  unfold spec_l1Cur_bill
  obtain ⟨o', i', m', a', s', q1, q2, q3⟩ := bill_out hfu k (by omega) fu 1 [] c.code c.at_ c.seed k (by omega) (by omega) (by omega) hc (by omega) (by simp)
  rw [show ((1 : Nat) : Int) = 1 from rfl] at q1
  obtain ⟨r, c2, p1, -, -, p4⟩ := pick_ok (fu := fu) q2 (by omega) 40 (by omega)
  simp only [q1, Option.bind_some, p1]
  split
  · obtain ⟨v, c3, v1, -, v3⟩ := among_ok (fu := fu) p4 (by omega) [4, 5, 0] (by simp) (by simp)
    obtain ⟨u, c4, u1, -, u3⟩ := among_ok (fu := fu) v3 (by omega) [7, 8, 0] (by simp) (by simp)
    have ha : app o' [(⟨v, u, 1⟩ : Item)] = some (o' ++ [⟨v, u, 1⟩]) := app_ok (by simp; omega)
    simp only [v1, u1, ha, Option.bind_some]
    exact ⟨_, _, rfl, by simp; omega, u3.mono (by omega)⟩
  · split
    · obtain ⟨v, c3, v1, -, v3⟩ := among_ok (fu := fu) p4 (by omega) [0, 1000, 1001] (by simp) (by simp)
      have ha : app o' [(⟨4, 7, v⟩ : Item)] = some (o' ++ [⟨4, 7, v⟩]) := app_ok (by simp; omega)
      simp only [v1, ha, Option.bind_some]
      exact ⟨_, _, rfl, by simp; omega, v3.mono (by omega)⟩
    · exact ⟨_, _, rfl, by omega, p4.mono (by omega)⟩
theorem part_of (l : List Int) (n : Nat) {v : Int} (h0 : 0 ≤ v) (h : v < 40) (hn : n + 2 ≤ l.length) (hn2 : n ≤ 100) (hl : 1 ≤ n) (hl2 : l.length ≤ 100) : ∃ q, quo v 20 = some q ∧ ∃ l', sub l 0 (w64 ((n : Int) + q)) = some l' ∧ 1 ≤ l'.length ∧ l'.length ≤ 100 := by
  have hq : quo v 20 = some (v / 20) := by unfold quo; rw [if_neg (by omega), Int.tdiv_eq_ediv_of_nonneg h0, w64_in (by omega) (by omega)]
  refine ⟨_, hq, ?_⟩
  clear hq
  have hb : 0 ≤ v / 20 ∧ v / 20 ≤ 1 := by omega
  generalize v / 20 = q at hb
  have hw : w64 ((n : Int) + q) = n + q := w64_in (by omega) (by omega)
  rw [hw]
  clear hw
  unfold sub
  rw [if_pos (by omega)]
  refine ⟨_, rfl, ?_⟩
  simp only [List.length_take, List.length_drop]
  omega
theorem reach_ok {fu : Nat} {c : L1CurP} {k : Int} (hc : Cur c k) (hk : k ≤ 4611686018427380000) : ∃ r c', spec_l1Cur_reach19 fu c = some (r, c') ∧ Cur c' (k + 4) := by
  unfold spec_l1Cur_reach19
  obtain ⟨v, c2, p1, p2, p3, p4⟩ := pick_ok (fu := fu) hc (by omega) 40 (by omega)
  obtain ⟨q, q1, l, q2, q3, q4⟩ := part_of [500, 700, 800, 1000, 1500, 400, 200, 20000, 0, 20001] 8 p2 (p3 (by omega)) (by simp) (by omega) (by omega) (by simp)
  obtain ⟨u, c4, u1, -, u3⟩ := among_ok (fu := fu) p4 (by omega) l q3 (by omega)
  rw [show ((8 : Nat) : Int) = 8 from rfl] at q2
  simp only [p1, Option.bind_some, q1, q2, u1]
  exact ⟨_, _, rfl, u3.mono (by omega)⟩
theorem drawBillOf {fu : Nat} (hfu : 2097153 ≤ fu) {x : List By} (hc : Cur ⟨x, 0, ⟨0⟩⟩ 0) : ∃ p r s, spec_DrawBillOf fu x = some (p, r, s) ∧ PlanD p := by
  unfold spec_DrawBillOf
  obtain ⟨p, c1, a1, a2, a3⟩ := anyPlan_ok hfu hc (by omega)
  obtain ⟨r, c2, b1, b2⟩ := reach_ok (fu := fu) a3 (by omega)
  obtain ⟨v, c3, p1, p2, p3, p4⟩ := pick_ok (fu := fu) b2 (by omega) 40 (by omega)
  obtain ⟨q, q1, l, q2, q3, q4⟩ := part_of [80, 100, 150, 50, 1000, 49, 1001] 5 p2 (p3 (by omega)) (by simp) (by omega) (by omega) (by simp)
  obtain ⟨u, c4, u1, -, u3⟩ := among_ok (fu := fu) p4 (by omega) l q3 (by omega)
  rw [show ((5 : Nat) : Int) = 5 from rfl] at q2
  simp only [a1, b1, p1, Option.bind_some, q1, q2, u1]
  exact ⟨_, _, _, rfl, a2⟩
theorem drawMerge {fu : Nat} (hfu : 2097153 ≤ fu) {x : List By} (hc : Cur ⟨x, 0, ⟨0⟩⟩ 0) : ∃ a b, spec_DrawMergeBills fu x = some (a, b) ∧ a.length ≤ 2097152 ∧ b.length ≤ 2097152 := by
  unfold spec_DrawMergeBills
  obtain ⟨a, c1, a1, a2, a3⟩ := bill_ok hfu hc (by omega)
  obtain ⟨b, c2, b1, b2, -⟩ := bill_ok hfu a3 (by omega)
  simp only [a1, b1, Option.bind_some]
  exact ⟨_, _, rfl, a2, b2⟩
/-! ### The law -/
theorem ends_loop (l : List Item) (hl : ∀ e ∈ l, itOk e = true) (hn : l.length ≤ 32) (G : Nat → Int → Int → Option (Out (Int × Int) Bool))
    (hG : ∀ fk s i, G (fk + 1) s i = if decide (i < (l.length : Int)) then (idx l i).bind fun e => (idx l i).bind fun e2 => if !(([e.Kind, e.Node, e.Count] : List Int) == ([e2.Kind, e2.Node, e2.Count] : List Int)) then some (.ret false) else (idx l i).bind fun e3 => if e3.Kind == 1 then (idx l i).bind fun e4 => G fk (w64 (s + e4.Count)) (w64 (i + 1)) else G fk s (w64 (i + 1)) else some (.next (s, i))) :
    ∀ (fk i : Nat) (s : Int), i ≤ l.length → l.length - i < fk → 0 ≤ s → s ≤ 1000 * (i : Int) → G fk s i = some (.next (s + tot endK (l.drop i), (l.length : Int))) := by
  intro fk
  induction fk with
  | zero => intro i _ _ h; omega
  | succ fk ih =>
    intro i s hi hk h0 h1
    rw [hG]
    by_cases h : i < l.length
    · have hd : l.drop i = l[i] :: l.drop (i + 1) := (List.getElem_cons_drop h).symm
      have h' : (i : Int) < (l.length : Int) := by omega
      have he := itOk_iff.1 (hl _ (List.getElem_mem h))
      rw [if_pos (decide_eq_true h'), hd, w64_inc h (by omega)]
      simp only [idx_in h, Option.bind_some, beq_self_eq_true, Bool.not_true, Bool.false_eq_true, if_false]
      generalize l[i] = e at he
      show _ = some (Out.next (s + (endK e.Kind e.Count + tot endK (l.drop (i + 1))), _))
      by_cases hk1 : e.Kind = 1
      · have hw : w64 (s + e.Count) = s + e.Count := w64_in (by omega) (by omega)
        rw [if_pos (beq_iff_eq.2 hk1), hw, ih (i + 1) _ h (by omega) (by omega) (by omega)]
        have : endK e.Kind e.Count = e.Count := by unfold endK; rw [if_pos hk1]
        rw [this, Int.add_assoc]
      · rw [if_neg (by simpa using hk1), ih (i + 1) _ h (by omega) (by omega) (by omega)]
        have : endK e.Kind e.Count = 0 := by unfold endK; rw [if_neg hk1]
        rw [this, Int.zero_add]
    · obtain rfl : i = l.length := by omega
      rw [if_neg (by simp), List.drop_length]
      show _ = some (Out.next (s + 0, _))
      rw [Int.add_zero]
theorem FnBills_true (x0 : List By) (o0 : ok_ByS x0) : ∃ fu, laws_FnBills fu x0 = some true := by
  obtain ⟨fu, hfu⟩ : ∃ fu, 2097153 ≤ fu := ⟨2097153, Nat.le_refl _⟩
  refine ⟨fu, ?_⟩
  unfold laws_FnBills laws_vBig
  by_cases hb : (x0.length : Int) > 65536
  · simp only [hb, decide_true, Option.bind_some, if_true]
  simp only [hb, decide_false, Option.bind_some, Bool.false_eq_true, if_false]
  have hc : Cur ⟨x0, 0, ⟨0⟩⟩ 0 := start_cur o0.1 (by omega)
  obtain ⟨a, b, d1, la, lb⟩ := drawMerge hfu hc
  obtain ⟨p, r, sp, d2, hp⟩ := drawBillOf hfu hc
  obtain ⟨w, w1, w2, w3, w4⟩ := bill_both hfu (x1 := r) (x2 := sp) hp.B
  obtain ⟨c, c1, c2, c3, c4⟩ := merge_both hfu la lb
  obtain ⟨m, m1, m2, m3, m4⟩ := missing_both hfu la lb
  -- the last part, which stands four times
  have last : ∀ G : Nat → Int → Int → Option (Out (Int × Int) Bool), (∀ fk s i, G (fk + 1) s i = if decide (i < (w.1.length : Int)) then (idx w.1 i).bind fun e => (idx w.1 i).bind fun e2 => if !(([e.Kind, e.Node, e.Count] : List Int) == ([e2.Kind, e2.Node, e2.Count] : List Int)) then some (.ret false) else (idx w.1 i).bind fun e3 => if e3.Kind == 1 then (idx w.1 i).bind fun e4 => G fk (w64 (s + e4.Count)) (w64 (i + 1)) else G fk s (w64 (i + 1)) else some (.next (s, i))) →
      (if (!w.2) = true then some true else (G fu 0 0).bind fun out => out.on some fun z => some (z.1 == (w64 (2 * (p.Lights.length : Int))))) = some true := by
    intro G hG
    cases hw : w.2
    · rfl
    · obtain ⟨h1, h2, h3⟩ := w4 hw
      obtain ⟨o, -, n⟩ := billOk_iff.1 h2
      have hs := (planF h1).short
      have g := ends_loop w.1 o n G hG fu 0 0 (by omega) (by omega) (by omega) (by omega)
      rw [show ((0 : Nat) : Int) = 0 from rfl, List.drop_zero, h3, Int.zero_add] at g
      have hw2 : w64 (2 * (p.Lights.length : Int)) = 2 * (p.Lights.length : Int) := w64_in (by omega) (by omega)
      rw [g, hw2]
      simp [Out.on]
  have l1 := last (laws_FnBills_L1 fu w w) (fun fk s i => by rw [laws_FnBills_L1])
  have l2 := last (laws_FnBills_L2 fu w w) (fun fk s i => by rw [laws_FnBills_L2])
  have l3 := last (laws_FnBills_L3 fu w w) (fun fk s i => by rw [laws_FnBills_L3])
  have l4 := last (laws_FnBills_L4 fu w w) (fun fk s i => by rw [laws_FnBills_L4])
  clear last
  have hif : ∀ t : Bool, (if t = true then (some true : Option Bool) else some false) = some t := fun t => by cases t <;> rfl
  simp only [d1, d2, c1, c2, m1, m2, w1, w2, Option.bind_some, bne_self_eq_false, beq_self_eq_true, Bool.false_eq_true, if_false, if_true, cost_eq hfu a la, cost_eq hfu b lb, cost_eq hfu c.1 c3, cost_eq hfu m.1 m3, l1, l2, l3, l4]
  -- a merged bill's cost, and that of what is missing
  have hcm : c.2 = true → billOk a = true ∧ billOk b = true ∧ billOk c.1 = true ∧ tot cp c.1 = w64 (tot cp a + tot cp b) := fun h => by
    obtain ⟨q1, q2, q3, q4⟩ := c4 h
    obtain ⟨o1, -, n1⟩ := billOk_iff.1 q1
    obtain ⟨o2, -, n2⟩ := billOk_iff.1 q2
    have t1 := tot_bound o1
    have t2 := tot_bound o2
    refine ⟨q1, q2, q3, ?_⟩
    rw [tot_merge cp_add q1 q2 q3 q4, w64_in (by omega) (by omega)]
  have hmm : m.2 = true → billOk a = true ∧ billOk b = true ∧ billOk m.1 = true ∧ ¬ tot cp m.1 > tot cp a ∧ ¬ tot cp m.1 < w64 (tot cp a - tot cp b) := fun h => by
    obtain ⟨q1, q2, q3, q4⟩ := m4 h
    obtain ⟨o1, s1, n1⟩ := billOk_iff.1 q1
    obtain ⟨o2, -, n2⟩ := billOk_iff.1 q2
    have t1 := tot_bound o1
    have t2 := tot_bound o2
    obtain ⟨u1, u2⟩ := tot_left (s := b) (l := a) (fun k => (cnt_le k o2).1) o1
    have u3 := usedOf_le s1 o2
    rw [← q4] at u1 u2
    have hw : w64 (tot cp a - tot cp b) = tot cp a - tot cp b := w64_in (by omega) (by omega)
    rw [hw]
    exact ⟨q1, q2, q3, by omega, by omega⟩
  cases hc2 : c.2
  · cases hm2 : m.2
    · simp only [Bool.false_eq_true, if_false]
    · obtain ⟨q1, q2, q3, q4, q5⟩ := hmm hm2
      simp only [q1, q2, q3, q4, q5, Bool.false_eq_true, if_false, if_true, Bool.not_true, decide_false, Option.bind_some]
  · obtain ⟨r1, r2, r3, r4⟩ := hcm hc2
    cases hm2 : m.2
    · simp only [r1, r2, r3, r4, Bool.false_eq_true, if_false, if_true, Bool.not_true, bne_self_eq_false, Option.bind_some]
    · obtain ⟨q1, q2, q3, q4, q5⟩ := hmm hm2
      simp only [r1, r2, r3, r4, q3, q4, q5, Bool.false_eq_true, if_false, if_true, Bool.not_true, bne_self_eq_false, decide_false, Option.bind_some]
end AT
