/- Draws of networks, routes and blocks, plainly: they come to an end, and what they yield is small. -/
import Derived.Test.YtiedecncmihbeaaGreatQCur
import Derived.Test.YtiedecncmihbeaaGreatQAct
set_option linter.unusedSimpArgs false
set_option linter.unusedVariables false
namespace AT
structure NetD (n : Network) : Prop where
  n1 : 1 ≤ n.Nodes.length
  n2 : n.Nodes.length ≤ 20
  ns : ∀ e ∈ n.Nodes, e.size ≤ 100
  f2 : n.Fibers.length ≤ 20
theorem NetD.B {n : Network} (h : NetD n) : NetB n := ⟨⟨by have := h.n2; omega, fun e he => by have := h.ns e he; omega⟩, by have := h.f2; omega⟩
theorem rem_ok {a n : Int} (ha : 0 ≤ a) (hn : 0 < n) : ∃ q, rem a n = some q ∧ 0 ≤ q ∧ q < n := by
  unfold rem
  rw [if_neg (by omega), Int.tmod_eq_emod_of_nonneg ha]
  exact ⟨_, rfl, Int.emod_nonneg _ (by omega), Int.emod_lt_of_pos _ hn⟩
theorem app1 {α : Type} {l : List α} {x : α} (h : l.length ≤ 1000000) : app l [x] = some (l ++ [x]) := app_ok (by simp; omega)
theorem least_ex (fu : Nat) (a b : Int) : ∃ r, spec_l1Least fu a b = some r ∧ (r = a ∨ r = b) := by
  unfold spec_l1Least; split <;> exact ⟨_, rfl, by simp⟩
theorem most_ex (fu : Nat) (a b : Int) : ∃ r, spec_l1Most fu a b = some r ∧ (r = a ∨ r = b) := by
  unfold spec_l1Most; split <;> exact ⟨_, rfl, by simp⟩
theorem l2Put_loop {fu : Nat} (l : List Fiber) (f : Fiber) (hl : l.length ≤ 1000000) : ∀ (fk i : Nat), i ≤ l.length → l.length - i < fk → ∃ j : Nat, spec_l2Put_L1 fu l f fk i = some (j : Int) ∧ j ≤ l.length := by
  intro fk
  induction fk with
  | zero => intro i _ h; omega
  | succ fk ih =>
    intro i hi hf
    rw [spec_l2Put_L1]
    by_cases h : i < l.length
    · have hlt : ((i : Int) < (l.length : Int)) = True := by simp; omega
      simp only [hlt, decide_true, if_true, idx_in h, Option.bind_some, l2Before_eq, w64_inc h (show (l.length : Int) ≤ 9223372036854775807 by omega)]
      split
      · exact ih (i + 1) h (by omega)
      · exact ⟨i, rfl, hi⟩
    · have hlt : ((i : Int) < (l.length : Int)) = False := by simp; omega
      simp only [hlt, decide_false, Bool.false_eq_true, if_false, Option.bind_some]
      exact ⟨i, rfl, hi⟩
theorem l2Put_ok {fu : Nat} (hfu : 2097153 ≤ fu) (l : List Fiber) (f : Fiber) (hl : l.length ≤ 1000000) : ∃ r, spec_l2Put fu l f = some r ∧ r.length = l.length + 1 := by
  unfold spec_l2Put
  obtain ⟨j, h1, h2⟩ := l2Put_loop (fu := fu) l f hl fu 0 (by omega) (by omega)
  have hs : sub l (j : Int) (l.length : Int) = some (l.drop j) := by
    unfold sub
    rw [if_pos (by omega)]
    simp
  rw [show ((0 : Nat) : Int) = 0 from rfl] at h1
  rw [h1, Option.bind_some, sub_take h2, Option.bind_some, hs, Option.bind_some, app_nil (by rw [List.length_take]; omega), Option.bind_some, app_ok (by rw [List.length_take, List.length_singleton]; omega), Option.bind_some, app_ok (by rw [List.length_append, List.length_take, List.length_singleton, List.length_drop]; omega), Option.bind_some]
  refine ⟨_, rfl, ?_⟩
  simp only [List.length_append, List.length_take, List.length_singleton, List.length_drop]
  omega
theorem net_loop1 {fu : Nat} (hfu : 2097153 ≤ fu) (y : Int × L1CurP) (K : Nat) (hK : w64 (2 + y.1) = (K : Int)) (h2 : 2 ≤ K) (h6 : K ≤ 6) : ∀ (fk i : Nat) (m : List By) (m2 : Int) (m3 : U64) (l : List Fiber) (k B : Int), Cur ⟨m, m2, m3⟩ k → k ≤ B + 10 * (i : Int) → B ≤ 1000000000 → l.length ≤ i → i ≤ K → K - i < fk →
    ∃ i' m' a' s' l', spec_l1Cur_network_L1 fu y fk i m m2 m3 l = some (i', m', a', s', l') ∧ l'.length ≤ K ∧ Cur ⟨m', a', s'⟩ (B + 10 * (K : Int)) := by
  intro fk
  induction fk with
  | zero => intro i _ _ _ _ _ _ _ _ _ _ _ h; omega
  | succ fk ih =>
    intro i m m2 m3 l k B hc hk hB hl hi hf
    rw [spec_l1Cur_network_L1, hK]
    by_cases h : i < K
    · have hlt : ((i : Int) < (K : Int)) = True := by simp; omega
      have e : w64 ((i : Int) + 1) = ((i + 1 : Nat) : Int) := w64_inc h (by omega)
      obtain ⟨q, hq, q0, q1⟩ := rem_ok (a := ((i + 1 : Nat) : Int)) (n := (K : Int)) (by omega) (by omega)
      obtain ⟨r1, c1, g1, -, -, k1⟩ := pick_ok (fu := fu) hc (by omega) 10 (by decide)
      simp only [hlt, decide_true, if_true, e, hq, Option.bind_some, spec_l1Cur_one, g1]
      have k1' : Cur ⟨c1.code, c1.at_, c1.seed⟩ (k + 2) := k1
      split
      · exact ih (i + 1) _ _ _ _ k B hc (by omega) hB (by omega) h (by omega)
      · split
        · exact ih (i + 1) _ _ _ _ (k + 2) B k1' (by omega) hB (by omega) h (by omega)
        · obtain ⟨r3, g3, -⟩ := least_ex fu (i : Int) q
          obtain ⟨r4, g4, -⟩ := most_ex fu (i : Int) q
          obtain ⟨r5, c5, g5, -, -, k5⟩ := pick_ok (fu := fu) k1 (by omega) 8 (by decide)
          obtain ⟨r6, c6, g6, -, k6⟩ := among_ok (fu := fu) k5 (by omega) [0, 0, 0, 1, 2] (by decide) (by decide)
          obtain ⟨r7, g7, h7⟩ := l2Put_ok hfu l ({ A := r3, B := r4, Length := w64 (100 * (w64 (1 + r5))), Risk := r6 } : Fiber) (by omega)
          simp only [g3, g4, g5, g6, g7, Option.bind_some]
          exact ih (i + 1) _ _ _ _ (k + 2 + 2 + 2) B k6 (by omega) hB (by omega) h (by omega)
    · obtain rfl : i = K := by omega
      have hlt : ((i : Int) < (i : Int)) = False := by simp
      simp only [hlt, decide_false, Bool.false_eq_true, if_false]
      exact ⟨_, _, _, _, _, rfl, hl, hc.mono (by omega)⟩
theorem net_loop2 {fu : Nat} (hfu : 2097153 ≤ fu) (y : Int × L1CurP) (K : Nat) (hK : w64 (2 + y.1) = (K : Int)) (h2 : 2 ≤ K) (h6 : K ≤ 6) : ∀ (fk n : Nat) (l : List Fiber) (m : List By) (m2 : Int) (m3 : U64) (k B : Int), Cur ⟨m, m2, m3⟩ k → k ≤ B - 10 * (n : Int) → B ≤ 1000000000 → l.length + n ≤ 9 → n < fk →
    ∃ i' l' m' a' s', spec_l1Cur_network_L2 fu y fk (n : Int) l m m2 m3 = some (i', l', m', a', s') ∧ l'.length ≤ 9 ∧ l.length ≤ l'.length ∧ Cur ⟨m', a', s'⟩ B := by
  intro fk
  induction fk with
  | zero => intro n _ _ _ _ _ _ _ _ _ _ h; omega
  | succ fk ih =>
    intro n l m m2 m3 k B hc hk hB hl hf
    rw [spec_l1Cur_network_L2, hK]
    by_cases h : 0 < n
    · have hlt : ((n : Int) > 0) = True := by simp; omega
      have e : w64 ((n : Int) - 1) = ((n - 1 : Nat) : Int) := w64_dec h (by omega)
      obtain ⟨r1, c1, g1, -, -, k1⟩ := pick_ok (fu := fu) hc (by omega) (K : Int) (by omega)
      obtain ⟨r2, c2, g2, -, -, k2⟩ := pick_ok (fu := fu) k1 (by omega) (K : Int) (by omega)
      simp only [hlt, decide_true, if_true, e, g1, g2, Option.bind_some]
      split
      · obtain ⟨r3, g3, -⟩ := least_ex fu r1 r2
        obtain ⟨r4, g4, -⟩ := most_ex fu r1 r2
        obtain ⟨r5, c5, g5, -, -, k5⟩ := pick_ok (fu := fu) k2 (by omega) 8 (by decide)
        obtain ⟨r6, c6, g6, -, k6⟩ := among_ok (fu := fu) k5 (by omega) [0, 0, 0, 1, 2] (by decide) (by decide)
        obtain ⟨r7, g7, h7⟩ := l2Put_ok hfu l ({ A := r3, B := r4, Length := w64 (100 * (w64 (1 + r5))), Risk := r6 } : Fiber) (by omega)
        simp only [g3, g4, g5, g6, g7, Option.bind_some]
        obtain ⟨i', l', m', a', s', q1, q2, q3, q4⟩ := ih (n - 1) r7 _ _ _ (k + 2 + 2 + 2 + 2) B k6 (by omega) hB (by omega) (by omega)
        exact ⟨i', l', m', a', s', q1, q2, by omega, q4⟩
      · exact ih (n - 1) _ _ _ _ (k + 2 + 2) B k2 (by omega) hB (by omega) (by omega)
    · obtain rfl : n = 0 := by omega
      rw [if_neg (by simp)]
      exact ⟨_, _, _, _, _, rfl, by omega, Nat.le_refl _, hc.mono (by omega)⟩
theorem network_ok {fu : Nat} (hfu : 2097153 ≤ fu) {c : L1CurP} {k : Int} (hc : Cur c k) (hk : k ≤ 900000000) : ∃ r c', spec_l1Cur_network fu c = some (r, c') ∧ NetD r ∧ r.Nodes.length ≤ 6 ∧ r.Fibers.length ≤ 9 ∧ Cur c' (k + 200) := by
  unfold spec_l1Cur_network
  obtain ⟨r1, c1, g1, p0, p1, k1⟩ := pick_ok (fu := fu) hc (by omega) 5 (by decide)
  have p2 := p1 (by decide)
  have hK : w64 (2 + r1) = (((2 + r1).toNat : Nat) : Int) := by rw [w64_in (by omega) (by omega)]; omega
  have hK2 : 2 ≤ (2 + r1).toNat := by omega
  have hK6 : (2 + r1).toNat ≤ 6 := by omega
  obtain ⟨i2, m2, a2, s2, l2, g2, h2, k2⟩ := net_loop1 hfu (r1, c1) (2 + r1).toNat hK hK2 hK6 fu 0 c1.code c1.at_ c1.seed [] (k + 2) (k + 2) k1 (by omega) (by omega) (by simp) (by omega) (by omega)
  obtain ⟨r3, c3, g3, q0, q1, k3⟩ := pick_ok (fu := fu) k2 (by omega) 4 (by decide)
  have q2 := q1 (by decide)
  obtain ⟨i4, l4, m4, a4, s4, g4, h4, -, k4⟩ := net_loop2 hfu (r1, c1) (2 + r1).toNat hK hK2 hK6 fu r3.toNat l2 c3.code c3.at_ c3.seed (k + 2 + 10 * ((2 + r1).toNat : Int) + 2) (k + 200) k3 (by omega) (by omega) (by omega) (by omega)
  rw [Int.ofNat_zero] at g2
  rw [Int.toNat_of_nonneg q0] at g4
  simp only [g1, Option.bind_some, hK]
  rw [sub_take (by simp; omega)]
  simp only [g2, g3, g4, Option.bind_some]
  refine ⟨_, _, rfl, ⟨by simp; omega, by simp; omega, fun e he => ?_, by simp only; omega⟩, by simp; omega, h4, k4⟩
  have he' := List.mem_of_mem_take he
  simp only [List.mem_cons, List.not_mem_nil, or_false] at he'
  rcases he' with rfl | rfl | rfl | rfl | rfl | rfl <;> decide
theorem linked_ok {fu : Nat} (hfu : 2097153 ≤ fu) {c : L1CurP} {k : Int} (hc : Cur c k) (hk : k ≤ 900000000) : ∃ r c', spec_l1Cur_linked fu c = some (r, c') ∧ NetD r ∧ 1 ≤ r.Fibers.length ∧ Cur c' (k + 200) := by
  unfold spec_l1Cur_linked
  obtain ⟨r, c', g1, h1, h2, h3, k1⟩ := network_ok hfu hc hk
  simp only [g1, Option.bind_some]
  split
  · rename_i h
    have h0 : r.Fibers.length = 0 := by simpa using h
    rw [app1 (by omega)]
    exact ⟨_, _, rfl, ⟨h1.n1, h1.n2, h1.ns, by simp; omega⟩, by simp, k1⟩
  · rename_i h
    have h0 : r.Fibers.length ≠ 0 := by simpa using h
    exact ⟨_, _, rfl, h1, by omega, k1⟩
theorem route_loop2 {fu : Nat} (hfu : 2097153 ≤ fu) (n : Network) (y : Int × L1CurP) (seen : List Int) (hn : n.Fibers.length ≤ 1000000) (h1 : 1 ≤ seen.length) (h2 : seen.length ≤ 1000000) : ∀ (fk i : Nat) (o : List Int), i ≤ n.Fibers.length → n.Fibers.length - i < fk → o.length ≤ i → (∀ e ∈ o, 0 ≤ e ∧ e < (n.Fibers.length : Int)) →
    ∃ l i', spec_l1Cur_route_L2 fu n y seen fk o i = some (l, i') ∧ l.length ≤ n.Fibers.length ∧ ∀ e ∈ l, 0 ≤ e ∧ e < (n.Fibers.length : Int) := by
  intro fk
  induction fk with
  | zero => intro i _ _ h; omega
  | succ fk ih =>
    intro i o hi hf ho hr
    rw [spec_l1Cur_route_L2]
    by_cases h : i < n.Fibers.length
    · have hlt : ((i : Int) < (n.Fibers.length : Int)) = True := by simp; omega
      have e1 : w64 ((seen.length : Int) - 1) = ((seen.length - 1 : Nat) : Int) := by rw [w64_in (by omega) (by omega)]; omega
      have hh : ∀ v, spec_l1Has fu seen v = some (seen.any fun x => x == v) := fun v => l1Has_eq seen v (by omega) (by omega)
      have ha : app o [(i : Int)] = some (o ++ [(i : Int)]) := app1 (by omega)
      simp only [hlt, decide_true, if_true, e1, idx_in (show seen.length - 1 < seen.length by omega), Option.bind_some, l2Other_eq fu n i _ h, hh, ha, w64_inc h (show (n.Fibers.length : Int) ≤ 9223372036854775807 by omega)]
      have two : ∀ b : Bool, ∃ l i', (if b = true then spec_l1Cur_route_L2 fu n y seen fk (o ++ [(i : Int)]) ((i + 1 : Nat) : Int) else spec_l1Cur_route_L2 fu n y seen fk o ((i + 1 : Nat) : Int)) = some (l, i') ∧ l.length ≤ n.Fibers.length ∧ ∀ e ∈ l, 0 ≤ e ∧ e < (n.Fibers.length : Int) := by
        intro b
        cases b
        · exact ih (i + 1) o h (by omega) (by omega) hr
        · refine ih (i + 1) _ h (by omega) (by simp; omega) fun e he => ?_
          rcases List.mem_append.1 he with he | he
          · exact hr e he
          · simp only [List.mem_singleton] at he
            omega
      split
      · exact two _
      · exact two false
    · obtain rfl : i = n.Fibers.length := by omega
      rw [if_neg (by simp)]
      exact ⟨_, _, rfl, ho, hr⟩
theorem route_loop1 {fu : Nat} (hfu : 2097153 ≤ fu) (n : Network) (y : Int × L1CurP) (hn : n.Fibers.length ≤ 1000) : ∀ (fk m : Nat) (seen l : List Int) (b : List By) (a : Int) (s : U64) (k B : Int), Cur ⟨b, a, s⟩ k → k ≤ B - 2 * (m : Int) → B ≤ 1000000000 → 1 ≤ seen.length → seen.length + m ≤ 1000 → l.length + m ≤ 4 → (∀ e ∈ l, 0 ≤ e ∧ e < (n.Fibers.length : Int)) → m < fk →
    ∃ s2 m2 l' b' a' s', spec_l1Cur_route_L1 fu n y fk seen (m : Int) l b a s = some (s2, m2, l', b', a', s') ∧ l'.length ≤ 4 ∧ (∀ e ∈ l', 0 ≤ e ∧ e < (n.Fibers.length : Int)) ∧ Cur ⟨b', a', s'⟩ B := by
  intro fk
  induction fk with
  | zero => intro m _ _ _ _ _ _ _ _ _ _ _ _ _ _ h; omega
  | succ fk ih =>
    intro m seen l b a s k B hc hk hB hs1 hs2 hl hr hf
    rw [spec_l1Cur_route_L1]
    by_cases h : 0 < m
    · have hlt : ((m : Int) > 0) = True := by simp; omega
      have e : w64 ((m : Int) - 1) = ((m - 1 : Nat) : Int) := w64_dec h (by omega)
      obtain ⟨z, zi, g1, z1, z2⟩ := route_loop2 hfu n y seen (by omega) hs1 (by omega) fu 0 [] (by omega) (by omega) (by simp) (by simp)
      rw [Int.ofNat_zero] at g1
      have e1 : w64 ((seen.length : Int) - 1) = ((seen.length - 1 : Nat) : Int) := by rw [w64_in (by omega) (by omega)]; omega
      simp only [hlt, decide_true, if_true, e, g1, Option.bind_some]
      by_cases hz : z.length = 0
      · have hz' : ((z.length : Int) == 0) = true := by simp [hz]
        simp only [hz', if_true]
        exact ⟨_, _, _, _, _, _, rfl, by omega, hr, hc.mono (by omega)⟩
      · have hz' : ((z.length : Int) == 0) = false := by simpa using hz
        obtain ⟨r1, c1, g2, p0, p1, k1⟩ := pick_ok (fu := fu) hc (by omega) (z.length : Int) (by omega)
        obtain ⟨x, hx, hxm⟩ := idx_some (l := z) (i := r1) p0 (p1 (by omega))
        obtain ⟨x0, x1⟩ := z2 x hxm
        have hxn : x = ((x.toNat : Nat) : Int) := by omega
        have ho : ∀ v, spec_l2Other fu n x v = some (oth (gd n.Fibers x.toNat f0) v) := fun v => by
          have := l2Other_eq fu n x.toNat v (by omega)
          rwa [← hxn] at this
        simp only [hz', Bool.false_eq_true, if_false, g2, Option.bind_some, hx, e1, idx_in (show seen.length - 1 < seen.length by omega), ho, app1 (show l.length ≤ 1000000 by omega), app1 (show seen.length ≤ 1000000 by omega)]
        refine ih (m - 1) _ _ _ _ _ (k + 2) B k1 (by omega) hB (by simp) (by simp; omega) (by simp; omega) (fun q hq => ?_) (by omega)
        rcases List.mem_append.1 hq with hq | hq
        · exact hr q hq
        · simp only [List.mem_singleton] at hq
          omega
    · obtain rfl : m = 0 := by omega
      rw [if_neg (by simp)]
      exact ⟨_, _, _, _, _, _, rfl, by omega, hr, hc.mono (by omega)⟩
theorem route_ok {fu : Nat} (hfu : 2097153 ≤ fu) {c : L1CurP} {k : Int} (hc : Cur c k) (hk : k ≤ 900000000) {n : Network} (hn : n.Fibers.length ≤ 1000) (hm : n.Nodes.length ≤ 1000) : ∃ r c', spec_l1Cur_route fu c n = some (r, c') ∧ r.Fibers.length ≤ 4 ∧ (∀ e ∈ r.Fibers, 0 ≤ e ∧ e < (n.Fibers.length : Int)) ∧ Cur c' (k + 20) := by
  unfold spec_l1Cur_route
  obtain ⟨r1, c1, g1, -, -, k1⟩ := pick_ok (fu := fu) hc (by omega) (n.Nodes.length : Int) (by omega)
  obtain ⟨r2, c2, g2, p0, p1, k2⟩ := pick_ok (fu := fu) k1 (by omega) 4 (by decide)
  have p2 := p1 (by decide)
  have e : w64 (1 + r2) = (((1 + r2).toNat : Nat) : Int) := by rw [w64_in (by omega) (by omega)]; omega
  obtain ⟨s3, m3, l3, b3, a3, t3, g3, h3, h4, k3⟩ := route_loop1 hfu n (r1, c1) hn fu (1 + r2).toNat [r1] [] c2.code c2.at_ c2.seed (k + 2 + 2) (k + 20) k2 (by omega) (by omega) (by simp) (by simp; omega) (by simp; omega) (by simp) (by omega)
  simp only [g1, g2, Option.bind_some, e, g3]
  exact ⟨_, _, rfl, h3, h4, k3⟩
theorem routed_ok {fu : Nat} (hfu : 2097153 ≤ fu) {c : L1CurP} {k : Int} (hc : Cur c k) (hk : k ≤ 900000000) {n : Network} (h1 : 1 ≤ n.Fibers.length) (hn : n.Fibers.length ≤ 1000) (hm : n.Nodes.length ≤ 1000) : ∃ r c', spec_l1Cur_routed fu c n = some (r, c') ∧ 1 ≤ r.Fibers.length ∧ r.Fibers.length ≤ 4 ∧ (∀ e ∈ r.Fibers, 0 ≤ e ∧ e < (n.Fibers.length : Int)) ∧ Cur c' (k + 20) := by
  unfold spec_l1Cur_routed
  obtain ⟨r, c', g1, h2, h3, k1⟩ := route_ok hfu hc hk hn hm
  simp only [g1, Option.bind_some]
  split
  · obtain ⟨e, he, -⟩ := idx_some (l := n.Fibers) (i := 0) (Int.le_refl _) (by omega)
    rw [he]
    exact ⟨_, _, rfl, by simp, by simp, by simp; omega, k1⟩
  · rename_i h
    have h0 : r.Fibers.length ≠ 0 := by simpa using h
    exact ⟨_, _, rfl, by omega, h2, h3, k1⟩
theorem anyRoute_ok {fu : Nat} (hfu : 2097153 ≤ fu) {c : L1CurP} {k : Int} (hc : Cur c k) (hk : k ≤ 900000000) {n : Network} (hn : n.Fibers.length ≤ 1000) (hm : n.Nodes.length ≤ 1000) : ∃ r c', spec_l1Cur_anyRoute fu c n = some (r, c') ∧ r.Fibers.length ≤ 5 ∧ Cur c' (k + 30) := by
  unfold spec_l1Cur_anyRoute
  obtain ⟨r, c1, g1, h1, -, k1⟩ := route_ok hfu hc hk hn hm
  obtain ⟨r2, c2, g2, -, -, k2⟩ := pick_ok (fu := fu) k1 (by omega) 16 (by decide)
  obtain ⟨r3, c3, g3, -, -, k3⟩ := pick_ok (fu := fu) k2 (by omega) 8 (by decide)
  simp only [g1, g2, g3, Option.bind_some, app1 (show r.Fibers.length ≤ 1000000 by omega)]
  split
  · exact ⟨_, _, rfl, by simp only; omega, k3.mono (by omega)⟩
  split
  · exact ⟨_, _, rfl, by simp; omega, k3.mono (by omega)⟩
  split
  · exact ⟨_, _, rfl, by simp, k2.mono (by omega)⟩
  split
  · split
    · rename_i h
      have h0 : (1 : Int) < r.Fibers.length := by simpa using h
      have e1 : w64 ((r.Fibers.length : Int) - 1) = ((r.Fibers.length - 1 : Nat) : Int) := by rw [w64_in (by omega) (by omega)]; omega
      simp only [e1, idx_in (show r.Fibers.length - 1 < r.Fibers.length by omega), Option.bind_some, app1 (show r.Fibers.length ≤ 1000000 by omega)]
      exact ⟨_, _, rfl, by simp; omega, k2.mono (by omega)⟩
    · exact ⟨_, _, rfl, by omega, k2.mono (by omega)⟩
  · exact ⟨_, _, rfl, by omega, k2.mono (by omega)⟩
theorem block_ok {fu : Nat} {c : L1CurP} {k : Int} (hc : Cur c k) (hk : k ≤ 900000000) : ∃ r c', spec_l1Cur_block fu c = some (r, c') ∧ Cur c' (k + 10) := by
  unfold spec_l1Cur_block spec_l1Cur_one
  obtain ⟨r1, c1, g1, -, -, k1⟩ := pick_ok (fu := fu) hc (by omega) 12 (by decide)
  obtain ⟨r2, c2, g2, -, -, k2⟩ := pick_ok (fu := fu) k1 (by omega) 26 (by decide)
  obtain ⟨r3, c3, g3, -, -, k3⟩ := pick_ok (fu := fu) k2 (by omega) 27 (by decide)
  obtain ⟨r4, c4, g4, p0, p1, k4⟩ := pick_ok (fu := fu) k1 (by omega) 6 (by decide)
  have p2 := p1 (by decide)
  obtain ⟨r5, c5, g5, -, -, k5⟩ := pick_ok (fu := fu) k4 (by omega) (w64 ((w64 (24 - (w64 (1 + r4)))) + 1)) (by
    rw [w64_in (n := 1 + r4) (by omega) (by omega), w64_in (n := 24 - (1 + r4)) (by omega) (by omega), w64_in (by omega) (by omega)]; omega)
  simp only [g1, g2, g3, g4, g5, Option.bind_some]
  split
  · exact ⟨_, _, rfl, k3.mono (by omega)⟩
  · exact ⟨_, _, rfl, k5.mono (by omega)⟩
theorem of_ok {fu : Nat} {c : L1CurP} {k : Int} (hc : Cur c k) (hk : k ≤ 4611686018427387000) (l : List ByteArray) (h1 : 1 ≤ l.length) (hn : l.length ≤ 1099511627776) : ∃ r c', spec_l1Cur_of fu c l = some (r, c') ∧ r ∈ l ∧ Cur c' (k + 2) := by
  unfold spec_l1Cur_of
  obtain ⟨r, c', g1, g2, g3, g4⟩ := pick_ok (fu := fu) hc hk (l.length : Int) (by omega)
  obtain ⟨e, he, hm⟩ := idx_some (l := l) (i := r) g2 (g3 (by omega))
  simp only [g1, Option.bind_some, he]
  exact ⟨_, _, rfl, hm, g4⟩
theorem anyNet_loop {fu : Nat} : ∀ (fk : Nat) (l : List Fiber) (b : List By) (a : Int) (s : U64) (k B : Int), Cur ⟨b, a, s⟩ k → k ≤ B + 2 * (l.length : Int) → B ≤ 1000000000 → 1 ≤ l.length → l.length ≤ 15 → 15 - l.length < fk →
    ∃ l' b' a' s', spec_l1Cur_anyNetwork_L1 fu fk l b a s = some (l', b', a', s') ∧ l'.length ≤ 15 ∧ Cur ⟨b', a', s'⟩ (B + 50) := by
  intro fk
  induction fk with
  | zero => intro l _ _ _ _ _ _ _ _ _ _ h; omega
  | succ fk ih =>
    intro l b a s k B hc hk hB h1 h2 hf
    rw [spec_l1Cur_anyNetwork_L1]
    obtain ⟨r1, c1, g1, p0, p1, k1⟩ := pick_ok (fu := fu) hc (by omega) 2 (by decide)
    have p2 := p1 (by decide)
    have e : w64 (14 + r1) = 14 + r1 := w64_in (by omega) (by omega)
    have e1 : w64 ((l.length : Int) - 1) = ((l.length - 1 : Nat) : Int) := by rw [w64_in (by omega) (by omega)]; omega
    simp only [g1, Option.bind_some, e, e1, idx_in (show l.length - 1 < l.length by omega), app1 (show l.length ≤ 1000000 by omega)]
    split
    · rename_i h
      have h' : (l.length : Int) < 14 + r1 := by simpa using h
      exact ih _ _ _ _ (k + 2) B k1 (by simp; omega) hB (by simp) (by simp; omega) (by simp; omega)
    · exact ⟨_, _, _, _, rfl, h2, k1.mono (by omega)⟩
theorem anyNetwork_ok {fu : Nat} (hfu : 2097153 ≤ fu) {c : L1CurP} {k : Int} (hc : Cur c k) (hk : k ≤ 800000000) : ∃ r c', spec_l1Cur_anyNetwork fu c = some (r, c') ∧ NetD r ∧ Cur c' (k + 500) := by
  unfold spec_l1Cur_anyNetwork
  obtain ⟨n, c1, g1, h1, h2, h3, k1⟩ := network_ok hfu hc (by omega)
  simp only [g1, Option.bind_some]
  by_cases h : n.Fibers.length = 0
  · have h' : ((n.Fibers.length : Int) == 0) = true := by simp [h]
    simp only [h', if_true]
    exact ⟨_, _, rfl, h1, k1.mono (by omega)⟩
  have h' : ((n.Fibers.length : Int) == 0) = false := by simpa using h
  obtain ⟨r2, c2, g2, p0, p1, k2⟩ := pick_ok (fu := fu) k1 (by omega) (n.Fibers.length : Int) (by omega)
  have p2 := p1 (by omega)
  obtain ⟨e, he, -⟩ := idx_some (l := n.Fibers) (i := r2) p0 p2
  obtain ⟨r3, c3, g3, -, -, k3⟩ := pick_ok (fu := fu) k2 (by omega) 24 (by decide)
  obtain ⟨r4, c4, g4, m4, k4⟩ := of_ok (fu := fu) k3 (by omega) [(⟨#[98]⟩ : ByteArray), ByteArray.empty, (⟨#[65]⟩ : ByteArray), (⟨#[97, 98, 99, 100, 101, 102, 103, 104]⟩ : ByteArray), (⟨#[97, 98, 99, 100, 101, 102, 103, 104, 105]⟩ : ByteArray), (⟨#[120, 49]⟩ : ByteArray)] (by simp) (by simp)
  obtain ⟨r5, c5, g5, -, -, k5⟩ := pick_ok (fu := fu) k3 (by omega) 8 (by decide)
  obtain ⟨r6, c6, g6, -, -, k6⟩ := pick_ok (fu := fu) k3 (by omega) 10 (by decide)
  obtain ⟨r7, c7, g7, -, k7⟩ := among_ok (fu := fu) k3 (by omega) [0, 1, 5000, 5001] (by decide) (by decide)
  obtain ⟨r8, c8, g8, -, k8⟩ := among_ok (fu := fu) k3 (by omega) [(-1), 9, 10] (by decide) (by decide)
  obtain ⟨e0, he0, -⟩ := idx_some (l := n.Fibers) (i := 0) (Int.le_refl _) (by omega)
  obtain ⟨v0, hv0, -⟩ := idx_some (l := n.Nodes) (i := 0) (Int.le_refl _) (by have := h1.n1; omega)
  obtain ⟨l9, b9, a9, s9, g9, h9, k9⟩ := anyNet_loop (fu := fu) fu n.Fibers c3.code c3.at_ c3.seed (k + 200 + 2 + 2) (k + 204) k3 (by omega) (by omega) (by omega) (by omega) (by omega)
  have hfs : ∀ f : Fiber, NetD ⟨n.Nodes, n.Fibers.set r2.toNat f⟩ := fun f => ⟨h1.n1, h1.n2, h1.ns, by simp only [List.length_set]; exact h1.f2⟩
  have ha := app1 (x := e0) (show n.Fibers.length ≤ 1000000 by omega)
  obtain ⟨e9, he9, -⟩ := idx_some (l := n.Fibers ++ [e0]) (i := r2) p0 (by simp; omega)
  have hn4 : app n.Nodes [(⟨#[112]⟩ : ByteArray), (⟨#[113]⟩ : ByteArray), (⟨#[114]⟩ : ByteArray), (⟨#[115]⟩ : ByteArray)] = some (n.Nodes ++ [(⟨#[112]⟩ : ByteArray), (⟨#[113]⟩ : ByteArray), (⟨#[114]⟩ : ByteArray), (⟨#[115]⟩ : ByteArray)]) := app_ok (by simp; omega)
  simp only [h', Bool.false_eq_true, if_false, g2, g3, g4, g5, g6, g7, g8, g9, he, he0, hv0, ha, he9, hn4, Option.bind_some]
  split
  · refine ⟨_, _, rfl, ⟨by simp only [List.length_set]; exact h1.n1, by simp only [List.length_set]; exact h1.n2, fun z hz => ?_, by simp only [List.length_set]; exact h1.f2⟩, k4.mono (by omega)⟩
    rcases List.mem_or_eq_of_mem_set hz with hz | rfl
    · exact h1.ns z hz
    · simp only [List.mem_cons, List.not_mem_nil, or_false] at m4
      rcases m4 with rfl | rfl | rfl | rfl | rfl | rfl <;> decide
  split
  · exact ⟨_, _, rfl, hfs _, k5.mono (by omega)⟩
  split
  · exact ⟨_, _, rfl, hfs _, k6.mono (by omega)⟩
  split
  · exact ⟨_, _, rfl, hfs _, k7.mono (by omega)⟩
  split
  · exact ⟨_, _, rfl, hfs _, k8.mono (by omega)⟩
  split
  · exact ⟨_, _, rfl, ⟨h1.n1, h1.n2, h1.ns, by simp; omega⟩, k3.mono (by omega)⟩
  split
  · exact ⟨_, _, rfl, ⟨h1.n1, h1.n2, h1.ns, by simp only; omega⟩, k9.mono (by omega)⟩
  split
  · refine ⟨_, _, rfl, ⟨by simp, by simp; omega, fun z hz => ?_, by simp only [List.length_set]; exact h1.f2⟩, k3.mono (by omega)⟩
    rcases List.mem_append.1 hz with hz | hz
    · exact h1.ns z hz
    · simp only [List.mem_cons, List.not_mem_nil, or_false] at hz
      rcases hz with rfl | rfl | rfl | rfl <;> decide
  · exact ⟨_, _, rfl, hfs _, k3.mono (by omega)⟩
end AT

namespace AT
structure PlanD (p : Plan) : Prop where
  net : NetD p.Network
  ls : p.Lights.length ≤ 20
  rs : ∀ x ∈ p.Lights, x.Route.Fibers.length ≤ 20
theorem PlanD.B {p : Plan} (h : PlanD p) : PlanB p := ⟨h.net.B, by have := h.ls; omega, fun x hx => by have := h.rs x hx; omega⟩
theorem l4Own_eq (fu : Nat) (r : Route) (h : r.Fibers.length ≤ 2097152) : spec_l4Own fu r = some r := by
  unfold spec_l4Own spec_l1Own
  rw [app_nil (by omega)]
  rfl
theorem plan_loop {fu : Nat} (hfu : 2097153 ≤ fu) (ns : List ByteArray) (fs : List Fiber) (hn : NetD ⟨ns, fs⟩) (h1 : 1 ≤ fs.length) : ∀ (fk n : Nat) (L : List Light) (b : List By) (a : Int) (s : U64) (k B : Int), Cur ⟨b, a, s⟩ k → k ≤ B - 50 * (n : Int) → B ≤ 800000000 → L.length + n ≤ 8 → (∀ y ∈ L, blkOk y.Block = true) → (∀ y ∈ L, y.Route.Fibers.length ≤ 4) → n < fk →
    ∃ n' L' b' a' s', spec_l1Cur_plan_L1 fu fk (n : Int) ns fs L b a s = some (n', ns, fs, L', b', a', s') ∧ L'.length ≤ 8 ∧ (∀ y ∈ L', y.Route.Fibers.length ≤ 4) ∧ Cur ⟨b', a', s'⟩ B := by
  intro fk
  induction fk with
  | zero => intro n _ _ _ _ _ _ _ _ _ _ _ _ h; omega
  | succ fk ih =>
    intro n L b a s k B hc hk hB hl hb hr hf
    rw [spec_l1Cur_plan_L1]
    have f2 := hn.f2
    have n2 := hn.n2
    simp only at f2 n2
    by_cases h : 0 < n
    · have hlt : ((n : Int) > 0) = True := eq_true (by omega)
      have e : w64 ((n : Int) - 1) = ((n - 1 : Nat) : Int) := w64_dec h (by omega)
      obtain ⟨r3, c3, g3, q1, q2, q3, k3⟩ := routed_ok hfu hc (by omega) (n := ⟨ns, fs⟩) h1 (by simp only; omega) (by simp only; omega)
      obtain ⟨r4, c4, g4, p0, p1, k4⟩ := pick_ok (fu := fu) k3 (by omega) 5 (by decide)
      have p2 := p1 (by decide)
      have e4 : w64 (1 + r4) = 1 + r4 := w64_in (by omega) (by omega)
      have hal := l9Along_eq hfu (⟨⟨ns, fs⟩, L⟩ : Plan) r3 (by simp only; omega) hb (fun x hx => by have := hr x hx; omega) (by omega)
      have hfi := fun m => l8Fits_eq hfu m (1 + r4) (by omega) (by omega)
      simp only [hlt, decide_true, if_true, e, g3, g4, Option.bind_some, hal, e4, hfi]
      obtain ⟨F, hF⟩ : ∃ F, F = fits (along L r3.Fibers) (1 + r4) := ⟨_, rfl⟩
      simp only [← hF]
      have hm : ∀ t ∈ F, blkOk ⟨t, 1 + r4⟩ = true := fun t ht => by
        rw [hF, fits_mem (by omega) (by omega)] at ht
        unfold blkOk
        simp only [Bool.and_eq_true, decide_eq_true_eq]
        omega
      by_cases hz : F.length = 0
      · have hz' : ((F.length : Int) > 0) = False := eq_false (by omega)
        simp only [hz', decide_false, Bool.false_eq_true, if_false]
        exact ih (n - 1) L _ _ _ (k + 20 + 2) B k4 (by omega) hB (by omega) hb hr (by omega)
      · have hz' : ((F.length : Int) > 0) = True := eq_true (by omega)
        obtain ⟨e0, he0, hm0⟩ := idx_some (l := F) (i := 0) (Int.le_refl _) (by omega)
        obtain ⟨r5, c5, g5, -, -, k5⟩ := pick_ok (fu := fu) k4 (by omega) 2 (by decide)
        have hFl : F.length ≤ 25 := by rw [hF]; exact fits_len _ _
        obtain ⟨r6, c6, g6, p6, p7, k6⟩ := pick_ok (fu := fu) k5 (by omega) (F.length : Int) (by omega)
        obtain ⟨e1, he1, hm1⟩ := idx_some (l := F) (i := r6) p6 (p7 (by omega))
        obtain ⟨r7, c7, g7, -, -, k7⟩ := pick_ok (fu := fu) k6 (by omega) 3 (by decide)
        obtain ⟨r8, c8, g8, -, -, k8⟩ := pick_ok (fu := fu) k5 (by omega) 3 (by decide)
        have hput : ∀ x : Light, x.Route = r3 → spec_l9Put fu (⟨⟨ns, fs⟩, L⟩ : Plan) x = some (addP ⟨⟨ns, fs⟩, L⟩ x) := fun x hx => l9Put_eq hfu _ x ⟨hn.B, by simp only; omega, fun y hy => by have := hr y hy; omega⟩ (by rw [hx]; omega)
        simp only [hz', decide_true, if_true, he0, spec_l1Cur_one, g5, g6, he1, g7, g8, Option.bind_some]
        have step : ∀ (x : Light) (c : L1CurP) (k' : Int), x.Route = r3 → blkOk x.Block = true → Cur c k' → k' ≤ k + 30 → ∃ n' L' b' a' s', ((spec_l9Put fu (⟨⟨ns, fs⟩, L⟩ : Plan) x).bind fun y => spec_l1Cur_plan_L1 fu fk ((n - 1 : Nat) : Int) y.Network.Nodes y.Network.Fibers y.Lights c.code c.at_ c.seed) = some (n', ns, fs, L', b', a', s') ∧ L'.length ≤ 8 ∧ (∀ y ∈ L', y.Route.Fibers.length ≤ 4) ∧ Cur ⟨b', a', s'⟩ B := by
          intro x c k' hx hb' hc' hk'
          rw [hput x hx, Option.bind_some]
          refine ih (n - 1) (putL L x) _ _ _ k' B hc' (by omega) hB (by rw [putL_len]; omega) (fun y hy => ?_) (fun y hy => ?_) (by omega)
          · rcases putL_mem.1 hy with rfl | hy
            · exact hb'
            · exact hb y hy
          · rcases putL_mem.1 hy with rfl | hy
            · rw [hx]; omega
            · exact hr y hy
        split
        · exact step _ c7 _ rfl (hm _ hm1) k7 (by omega)
        · exact step _ c8 _ rfl (hm _ hm0) k8 (by omega)
    · obtain rfl : n = 0 := by omega
      rw [if_neg (by simp)]
      exact ⟨_, _, _, _, _, rfl, by omega, hr, hc.mono (by omega)⟩
theorem plan_ok {fu : Nat} (hfu : 2097153 ≤ fu) {c : L1CurP} {k : Int} (hc : Cur c k) (hk : k ≤ 700000000) : ∃ r c', spec_l1Cur_plan fu c = some (r, c') ∧ PlanD r ∧ r.Lights.length ≤ 8 ∧ 1 ≤ r.Network.Fibers.length ∧ (∀ x ∈ r.Lights, x.Route.Fibers.length ≤ 4) ∧ Cur c' (k + 1000) := by
  unfold spec_l1Cur_plan
  obtain ⟨n, c1, g1, h1, h2, k1⟩ := linked_ok hfu hc (by omega)
  obtain ⟨r2, c2, g2, p0, p1, k2⟩ := pick_ok (fu := fu) k1 (by omega) 9 (by decide)
  have p2 := p1 (by decide)
  obtain ⟨n', L', b', a', s', g3, h3, h4, k3⟩ := plan_loop hfu n.Nodes n.Fibers h1 h2 fu r2.toNat [] c2.code c2.at_ c2.seed (k + 200 + 2) (k + 1000) k2 (by omega) (by omega) (by simp; omega) (by simp) (by simp) (by omega)
  rw [Int.toNat_of_nonneg p0] at g3
  simp only [g1, g2, g3, Option.bind_some]
  exact ⟨_, _, rfl, ⟨h1, by simp only; omega, fun x hx => by have := h4 x hx; omega⟩, h3, h2, h4, k3⟩
theorem anyPlan_loop {fu : Nat} (y : Plan × L1CurP) (h1 : 1 ≤ y.1.Network.Fibers.length) : ∀ (fk n : Nat) (L : List Light) (b : List By) (a : Int) (s : U64) (k B : Int), Cur ⟨b, a, s⟩ k → k ≤ B + 2 * (n : Int) → B ≤ 800000000 → n ≤ 14 → L.length ≤ 13 → (∀ y ∈ L, y.Route.Fibers.length ≤ 20) → 15 - n < fk →
    ∃ n' L' b' a' s', spec_l1Cur_anyPlan_L1 fu y fk (n : Int) L b a s = some (n', L', b', a', s') ∧ L'.length ≤ 13 ∧ (∀ y ∈ L', y.Route.Fibers.length ≤ 20) ∧ Cur ⟨b', a', s'⟩ (B + 60) := by
  intro fk
  induction fk with
  | zero => intro n _ _ _ _ _ _ _ _ _ _ _ _ h; omega
  | succ fk ih =>
    intro n L b a s k B hc hk hB hn hl hr hf
    rw [spec_l1Cur_anyPlan_L1]
    obtain ⟨r1, c1, g1, p0, p1, k1⟩ := pick_ok (fu := fu) hc (by omega) 2 (by decide)
    have p2 := p1 (by decide)
    have e : w64 (12 + r1) = 12 + r1 := w64_in (by omega) (by omega)
    have e1 : w64 ((n : Int) + 1) = ((n + 1 : Nat) : Int) := by rw [w64_in (by omega) (by omega)]; omega
    obtain ⟨e0, he0, -⟩ := idx_some (l := y.1.Network.Fibers) (i := 0) (Int.le_refl _) (by omega)
    have ha : ∀ x : Light, app L [x] = some (L ++ [x]) := fun x => app1 (by omega)
    simp only [g1, Option.bind_some, e, e1, he0, ha]
    split
    · rename_i h
      have h' : (L.length : Int) < 12 + r1 := by simpa using h
      split
      · rename_i h3
        have h3' : (n : Int) < 14 := by simpa using h3
        refine ih (n + 1) _ _ _ _ (k + 2) B k1 (by omega) hB (by omega) (by simp; omega) (fun x hx => ?_) (by omega)
        rcases List.mem_append.1 hx with hx | hx
        · exact hr x hx
        · simp only [List.mem_singleton] at hx; subst hx; simp
      · exact ⟨_, _, _, _, _, rfl, hl, hr, k1.mono (by omega)⟩
    · exact ⟨_, _, _, _, _, rfl, hl, hr, k1.mono (by omega)⟩
theorem anyPlan_ok {fu : Nat} (hfu : 2097153 ≤ fu) {c : L1CurP} {k : Int} (hc : Cur c k) (hk : k ≤ 600000000) : ∃ r c', spec_l1Cur_anyPlan fu c = some (r, c') ∧ PlanD r ∧ Cur c' (k + 3000) := by
  unfold spec_l1Cur_anyPlan
  obtain ⟨p, c1, g1, h1, h2, h3, h4, k1⟩ := plan_ok hfu hc (by omega)
  simp only [g1, Option.bind_some]
  by_cases h : p.Lights.length = 0
  · have h' : ((p.Lights.length : Int) == 0) = true := by simp [h]
    simp only [h', if_true]
    exact ⟨_, _, rfl, h1, k1.mono (by omega)⟩
  have h' : ((p.Lights.length : Int) == 0) = false := by simpa using h
  obtain ⟨r2, c2, g2, p0, p1, k2⟩ := pick_ok (fu := fu) k1 (by omega) (p.Lights.length : Int) (by omega)
  have p2 := p1 (by omega)
  obtain ⟨e, he, hem⟩ := idx_some (l := p.Lights) (i := r2) p0 p2
  obtain ⟨r3, c3, g3, -, -, k3⟩ := pick_ok (fu := fu) k2 (by omega) 24 (by decide)
  obtain ⟨r4, c4, g4, -, k4⟩ := among_ok (fu := fu) k3 (by omega) [0, 999, 1000, 1, 4] (by decide) (by decide)
  obtain ⟨r5, c5, g5, k5⟩ := block_ok (fu := fu) k3 (by omega)
  obtain ⟨r6, c6, g6, h6, k6⟩ := anyRoute_ok hfu k3 (by omega) (n := p.Network) (by have := h1.net.f2; omega) (by have := h1.net.n2; omega)
  obtain ⟨r7, c7, g7, h7, k7⟩ := anyNetwork_ok hfu k3 (by omega)
  obtain ⟨n8, L8, b8, a8, s8, g8, l8, m8, k8⟩ := anyPlan_loop (fu := fu) (p, c1) h3 fu 0 p.Lights c3.code c3.at_ c3.seed (k + 1000 + 2 + 2) (k + 1010) k3 (by omega) (by omega) (by omega) (by omega) (fun x hx => by have := h4 x hx; omega) (by omega)
  rw [Int.ofNat_zero] at g8
  have hr := h4 e hem
  have hset : ∀ (x : Light), x.Route.Fibers.length ≤ 5 → PlanD ⟨p.Network, p.Lights.set r2.toNat x⟩ := fun x hx => ⟨h1.net, by simp only [List.length_set]; omega, fun y hy => by
    rcases List.mem_or_eq_of_mem_set hy with hy | rfl
    · have := h4 y hy; omega
    · omega⟩
  have ha : app p.Lights [e] = some (p.Lights ++ [e]) := app1 (by omega)
  obtain ⟨e9, he9, -⟩ := idx_some (l := p.Lights ++ [e]) (i := r2) p0 (by simp; omega)
  simp only [h', Bool.false_eq_true, if_false, g2, g3, g4, g5, g6, g7, g8, he, ha, he9, Option.bind_some]
  split
  · exact ⟨_, _, rfl, hset _ (by simp only; omega), k4.mono (by omega)⟩
  split
  · exact ⟨_, _, rfl, hset _ (by simp only; omega), k5.mono (by omega)⟩
  split
  · exact ⟨_, _, rfl, hset _ (by simp only; omega), k6.mono (by omega)⟩
  split
  · refine ⟨_, _, rfl, ⟨h1.net, by simp; omega, fun y hy => ?_⟩, k3.mono (by omega)⟩
    rcases List.mem_or_eq_of_mem_set hy with hy | rfl
    · rcases List.mem_append.1 hy with hy | hy
      · have := h4 y hy; omega
      · simp only [List.mem_singleton] at hy; subst hy; omega
    · omega
  split
  · exact ⟨_, _, rfl, ⟨h7, by simp only [List.length_set]; omega, (hset e (by omega)).rs⟩, k7.mono (by omega)⟩
  split
  · exact ⟨_, _, rfl, ⟨h1.net, by simp only; omega, m8⟩, k8.mono (by omega)⟩
  · exact ⟨_, _, rfl, hset _ (by omega), k3.mono (by omega)⟩
end AT

namespace AT
def ActsB (l : List Action) : Prop := l.length ≤ 2097152 ∧ ∀ a ∈ l, a.Light.Route.Fibers.length ≤ 2097152
theorem copyLight_eq (fu : Nat) (x : Light) (h : x.Route.Fibers.length ≤ 2097152) : impl_copyLight fu x = some x := by
  unfold impl_copyLight
  rw [copyRoute_eq fu _ h]
  rfl
theorem l20Copies_loop {fu : Nat} (l : List Action) (hB : ActsB l) : ∀ (fk i : Nat) (o : List Action), i ≤ l.length → l.length - i < fk → o.length ≤ i → ∃ z, spec_l20Copies_L1 fu l fk o i = some (o ++ l.drop i, z) := by
  obtain ⟨hl, hr⟩ := hB
  intro fk
  induction fk with
  | zero => intro i _ _ h; omega
  | succ fk ih =>
    intro i o hi hk ho
    rw [spec_l20Copies_L1]
    by_cases h : i < l.length
    · have h' : (i : Int) < (l.length : Int) := by omega
      have ha : app o [l[i]] = some (o ++ [l[i]]) := app_ok (by rw [List.length_singleton]; omega)
      simp only [h', decide_true, if_true, idx_in h, Option.bind_some, l9Copy_eq fu _ (hr _ (List.getElem_mem h)), ha]
      rw [w64_inc h (by omega)]
      obtain ⟨z, hz⟩ := ih (i + 1) (o ++ [l[i]]) h (by omega) (by rw [List.length_append, List.length_singleton]; omega)
      exact ⟨z, by rw [hz, List.append_assoc, ← List.getElem_cons_drop h]; rfl⟩
    · obtain rfl : i = l.length := by omega
      rw [if_neg (by simp), List.drop_length, List.append_nil]
      exact ⟨_, rfl⟩
theorem l20Copies_eq {fu : Nat} (hfu : 2097153 ≤ fu) (l : List Action) (hB : ActsB l) : spec_l20Copies fu l = some l := by
  unfold spec_l20Copies
  obtain ⟨z, hz⟩ := l20Copies_loop (fu := fu) l hB fu 0 [] (by omega) (by have := hB.1; omega) (by simp)
  rw [show ((0 : Nat) : Int) = 0 from rfl] at hz
  rw [hz, Option.bind_some, List.nil_append, List.drop_zero]
theorem copyActions_loop {fu : Nat} (l : List Action) (hB : ActsB l) : ∀ (fk i : Nat) (o : List Action), i ≤ l.length → l.length - i < fk → o.length ≤ i → ∃ z, impl_copyActions_L1 fu l fk o i = some (o ++ l.drop i, z) := by
  obtain ⟨hl, hr⟩ := hB
  intro fk
  induction fk with
  | zero => intro i _ _ h; omega
  | succ fk ih =>
    intro i o hi hk ho
    rw [impl_copyActions_L1]
    by_cases h : i < l.length
    · have h' : (i : Int) < (l.length : Int) := by omega
      have ha : app o [l[i]] = some (o ++ [l[i]]) := app_ok (by rw [List.length_singleton]; omega)
      simp only [h', decide_true, if_true, idx_in h, Option.bind_some, copyLight_eq fu _ (hr _ (List.getElem_mem h)), ha]
      rw [w64_inc h (by omega)]
      obtain ⟨z, hz⟩ := ih (i + 1) (o ++ [l[i]]) h (by omega) (by rw [List.length_append, List.length_singleton]; omega)
      exact ⟨z, by rw [hz, List.append_assoc, ← List.getElem_cons_drop h]; rfl⟩
    · obtain rfl : i = l.length := by omega
      rw [if_neg (by simp), List.drop_length, List.append_nil]
      exact ⟨_, rfl⟩
theorem copyActions_eq {fu : Nat} (hfu : 2097153 ≤ fu) (l : List Action) (hB : ActsB l) : impl_copyActions fu l = some l := by
  unfold impl_copyActions
  obtain ⟨z, hz⟩ := copyActions_loop (fu := fu) l hB fu 0 [] (by omega) (by have := hB.1; omega) (by simp)
  rw [show ((0 : Nat) : Int) = 0 from rfl] at hz
  rw [hz, Option.bind_some, List.nil_append, List.drop_zero]
theorem copyChange_eq {fu : Nat} (hfu : 2097153 ≤ fu) (c : Change) (hP : PlanB c.Plan) (hA : ActsB c.Actions) (hU : ActsB c.Undo) : impl_copyChange fu c = some c := by
  unfold impl_copyChange
  rw [copyPlan_eq hfu _ hP, Option.bind_some, copyActions_eq hfu _ hA, Option.bind_some, copyActions_eq hfu _ hU]
  rfl
end AT

namespace AT
def acts : List Action → Plan → Plan × Nat
  | [], p => (p, 0)
  | a :: l, p => if (act p a).2 = true then ((acts l (act p a).1).1, (acts l (act p a).1).2 + 1) else (p, 0)
theorem acts_le : ∀ (l : List Action) (p : Plan), (acts l p).2 ≤ l.length
  | [], p => Nat.le_refl _
  | a :: l, p => by
    unfold acts
    split
    · have := acts_le l (act p a).1
      simp only [List.length_cons]; omega
    · simp
def actsOut (l : List Action) (i : Nat) (q : Plan) : Out (Int × List ByteArray × List Fiber × List Light) (Plan × Int) :=
  if (acts (l.drop i) q).2 = l.length - i then .next ((l.length : Int), (acts (l.drop i) q).1.Network.Nodes, (acts (l.drop i) q).1.Network.Fibers, (acts (l.drop i) q).1.Lights) else .ret ((acts (l.drop i) q).1, ((i + (acts (l.drop i) q).2 : Nat) : Int))
theorem actsOut_step {l : List Action} {i : Nat} {q : Plan} (h : i < l.length) : actsOut l i q = if (act q l[i]).2 = true then actsOut l (i + 1) (act q l[i]).1 else .ret (q, (i : Int)) := by
  unfold actsOut
  rw [← List.getElem_cons_drop h]
  have e : acts (l[i] :: l.drop (i + 1)) q = if (act q l[i]).2 = true then ((acts (l.drop (i + 1)) (act q l[i]).1).1, (acts (l.drop (i + 1)) (act q l[i]).1).2 + 1) else (q, 0) := rfl
  rw [e]
  cases (act q l[i]).2
  · simp only [Bool.false_eq_true, if_false]
    rw [if_neg (by omega)]
    rfl
  · simp only [if_true]
    by_cases h1 : (acts (l.drop (i + 1)) (act q l[i]).1).2 = l.length - (i + 1)
    · rw [if_pos h1, if_pos (by omega)]
    · rw [if_neg h1, if_neg (by omega)]
      congr 3
      omega
theorem applied_loop {fu : Nat} (hfu : 2097153 ≤ fu) (l : List Action) (hA : ActsB l) : ∀ (fk i : Nat) (q : Plan), planOk q = true → PlanB q → i ≤ l.length → l.length - i < fk → impl_applied_L1 fu l fk i q.Network.Nodes q.Network.Fibers q.Lights = some (actsOut l i q) := by
  have hl := hA.1
  intro fk
  induction fk with
  | zero => intro i _ _ _ _ h; omega
  | succ fk ih =>
    intro i q hp hB hi hk
    rw [impl_applied_L1]
    by_cases h : i < l.length
    · have h' : (i : Int) < (l.length : Int) := by omega
      have ha := hA.2 _ (List.getElem_mem h)
      have hap : impl_ApplyAction fu ({ Network := ({ Nodes := q.Network.Nodes, Fibers := q.Network.Fibers } : Network), Lights := q.Lights } : Plan) l[i] = some (act q l[i]) := by
        have := apply_eq hfu q l[i] hB ha
        rwa [hp] at this
      rw [actsOut_step h]
      simp only [h', decide_true, if_true, idx_in h, Option.bind_some, hap]
      cases hc : (act q l[i]).2
      · rfl
      · simp only [Bool.not_true, Bool.false_eq_true, if_false, if_true]
        rw [w64_inc h (by omega)]
        exact ih (i + 1) (act q l[i]).1 (act_ok hp hc) (act_B hB hp ha hc) h (by omega)
    · obtain rfl : i = l.length := by omega
      rw [if_neg (by simp)]
      unfold actsOut
      rw [List.drop_length]
      simp [acts]
theorem actsOut_on {l : List Action} {p : Plan} : (actsOut l 0 p).on some (fun z => some (({ Network := ({ Nodes := z.2.1, Fibers := z.2.2.1 } : Network), Lights := z.2.2.2 } : Plan), (l.length : Int))) = some ((acts l p).1, ((acts l p).2 : Int)) := by
  unfold actsOut
  rw [List.drop_zero, Nat.sub_zero]
  split
  · rename_i h; rw [h]; rfl
  · rw [Nat.zero_add]; rfl
theorem applied_eq {fu : Nat} (hfu : 2097153 ≤ fu) (p : Plan) (l : List Action) (hA : ActsB l) (hp : planOk p = true) (hB : PlanB p) : impl_applied fu p l = some ((acts l p).1, ((acts l p).2 : Int)) := by
  have hl := hA.1
  unfold impl_applied
  have := applied_loop hfu l hA fu 0 p hp hB (by omega) (by omega)
  rw [show ((0 : Nat) : Int) = 0 from rfl] at this
  rw [copyPlan_eq hfu p hB, Option.bind_some, this, Option.bind_some, actsOut_on]
end AT

namespace AT
theorem light_ok {fu : Nat} (hfu : 2097153 ≤ fu) {c : L1CurP} {k : Int} (hc : Cur c k) (hk : k ≤ 800000000) {p : Plan} (hn : p.Network.Fibers.length ≤ 1000) (hm : p.Network.Nodes.length ≤ 1000) : ∃ r c', spec_l1Cur_light fu c p = some (r, c') ∧ r.Route.Fibers.length ≤ 5 ∧ Cur c' (k + 50) := by
  unfold spec_l1Cur_light spec_l1Cur_one
  obtain ⟨r1, c1, g1, -, k1⟩ := among_ok (fu := fu) hc (by omega) [30, 31, 1, 2, 4, 5, 999] (by decide) (by decide)
  obtain ⟨r2, c2, g2, h2, k2⟩ := anyRoute_ok hfu k1 (by omega) hn hm
  obtain ⟨r3, c3, g3, k3⟩ := block_ok (fu := fu) k2 (by omega)
  obtain ⟨r4, c4, g4, -, -, k4⟩ := pick_ok (fu := fu) k3 (by omega) 24 (by decide)
  obtain ⟨r5, c5, g5, -, k5⟩ := among_ok (fu := fu) k4 (by omega) [0, 1000] (by decide) (by decide)
  simp only [g1, g2, g3, g4, g5, Option.bind_some]
  split
  · exact ⟨_, _, rfl, h2, k5.mono (by omega)⟩
  · exact ⟨_, _, rfl, h2, k4.mono (by omega)⟩
theorem action_ok {fu : Nat} (hfu : 2097153 ≤ fu) {c : L1CurP} {k : Int} (hc : Cur c k) (hk : k ≤ 700000000) {p : Plan} (hp : PlanD p) : ∃ r c', spec_l1Cur_action fu c p = some (r, c') ∧ r.Light.Route.Fibers.length ≤ 20 ∧ Cur c' (k + 100) := by
  unfold spec_l1Cur_action
  have hl := hp.ls
  have f2 := hp.net.f2
  have n2 := hp.net.n2
  obtain ⟨x, c1, g1, h1, k1⟩ := light_ok hfu hc (by omega) (p := p) (by omega) (by omega)
  obtain ⟨r9, c9, g9, -, k9⟩ := among_ok (fu := fu) k1 (by omega) [1, 1, 1, 2, 3, 0, 4] (by decide) (by decide)
  simp only [g1, Option.bind_some, spec_l1Cur_one, g9]
  by_cases h : p.Lights.length = 0
  · have h' : ((p.Lights.length : Int) > 0) = False := eq_false (by omega)
    simp only [h', decide_false, Bool.false_eq_true, if_false]
    exact ⟨_, _, rfl, by simp only; omega, k9.mono (by omega)⟩
  · have h' : ((p.Lights.length : Int) > 0) = True := eq_true (by omega)
    obtain ⟨r2, c2, g2, -, -, k2⟩ := pick_ok (fu := fu) k1 (by omega) 3 (by decide)
    obtain ⟨r3, c3, g3, p0, p1, k3⟩ := pick_ok (fu := fu) k2 (by omega) (p.Lights.length : Int) (by omega)
    obtain ⟨e, he, hem⟩ := idx_some (l := p.Lights) (i := r3) p0 (p1 (by omega))
    obtain ⟨r4, c4, g4, -, -, k4⟩ := pick_ok (fu := fu) k3 (by omega) 3 (by decide)
    have hr := hp.rs e hem
    obtain ⟨r5, c5, g5, k5⟩ := block_ok (fu := fu) k4 (by omega)
    obtain ⟨r6, c6, g6, h6, k6⟩ := anyRoute_ok hfu k4 (by omega) (n := p.Network) (by omega) (by omega)
    obtain ⟨r7, c7, g7, -, -, k7⟩ := pick_ok (fu := fu) k6 (by omega) 20 (by decide)
    obtain ⟨r8, c8, g8, -, k8⟩ := among_ok (fu := fu) k2 (by omega) [1, 1, 1, 2, 3, 0, 4] (by decide) (by decide)
    simp only [h', decide_true, if_true, g2, g3, g4, g5, g6, g7, g8, he, Option.bind_some, l9Copy_eq fu e (by omega), l4Own_eq fu e.Route (by omega)]
    split
    · split
      · exact ⟨_, _, rfl, hr, k4.mono (by omega)⟩
      · split
        · exact ⟨_, _, rfl, hr, k5.mono (by omega)⟩
        · exact ⟨_, _, rfl, by simp only; omega, k7.mono (by omega)⟩
    · exact ⟨_, _, rfl, by simp only; omega, k8.mono (by omega)⟩
theorem apply_ex {fu : Nat} (hfu : 2097153 ≤ fu) (p : Plan) (a : Action) (hB : PlanB p) (hp : planOk p = false) : ∃ r, spec_l20Apply fu p a = some r := by
  have hl := hB.2.1
  unfold spec_l20Apply spec_AddLight spec_MoveLight
  rw [specPlan_eq hfu p hB, hp, l9Find_eq p _ (by omega) hl]
  simp only [Option.bind_some, Bool.not_false, if_true]
  split
  · exact ⟨_, rfl⟩
  split
  · cases hh : has_ p a.Light.Id
    · have hh' : (p.Lights.any fun y => y.Id == a.Light.Id) = false := hh
      simp only [hh', Bool.false_eq_true, if_false, show decide ((-1 : Int) ≥ 0) = false from rfl, Option.bind_some]
      exact ⟨_, rfl⟩
    · have hh' : (p.Lights.any fun y => y.Id == a.Light.Id) = true := hh
      have hi := atId_lt hh'
      have hr := hB.2.2 _ (gd_mem l0 hi)
      simp only [hh', if_true, nonneg_nat, idx_gd l0 hi, Option.bind_some, l20Same_eq hfu _ a.Light hr, l9Without_eq hfu p hB hi]
      split <;> exact ⟨_, rfl⟩
  split <;> exact ⟨_, rfl⟩
theorem actions_loop {fu : Nat} (hfu : 2097153 ≤ fu) (good : Bool) : ∀ (fk n : Nat) (l : List Action) (p : Plan) (b : List By) (a : Int) (s : U64) (k B : Int), Cur ⟨b, a, s⟩ k → k ≤ B - 120 * (n : Int) → B ≤ 600000000 → PlanD p → planOk p = good → l.length + n ≤ 6 → (∀ x ∈ l, x.Light.Route.Fibers.length ≤ 20) → n < fk →
    ∃ l' n' m1 m2 m3 b' a' s', spec_l1Cur_actions_L1 fu good fk l (n : Int) p.Network.Nodes p.Network.Fibers p.Lights b a s = some (l', n', m1, m2, m3, b', a', s') ∧ l'.length ≤ 6 ∧ (∀ x ∈ l', x.Light.Route.Fibers.length ≤ 20) ∧ Cur ⟨b', a', s'⟩ B := by
  intro fk
  induction fk with
  | zero => intro n _ _ _ _ _ _ _ _ _ _ _ _ _ _ h; omega
  | succ fk ih =>
    intro n l p b a s k B hc hk hB hp hg hl hr hf
    rw [spec_l1Cur_actions_L1]
    by_cases h : 0 < n
    · have hlt : ((n : Int) > 0) = True := eq_true (by omega)
      have e : w64 ((n : Int) - 1) = ((n - 1 : Nat) : Int) := w64_dec h (by omega)
      obtain ⟨x, c3, g3, h3, k3⟩ := action_ok hfu hc (by omega) hp
      obtain ⟨r, hap, hok⟩ : ∃ r, spec_l20Apply fu p x = some r ∧ (good = true → r = act p x) := by
        cases good
        · obtain ⟨r, hr⟩ := apply_ex hfu p x hp.B hg
          exact ⟨r, hr, fun h => by cases h⟩
        · exact ⟨_, l20Apply_eq hfu p x hp.B hg (by omega), fun _ => rfl⟩
      obtain ⟨r5, c5, g5, -, -, k5⟩ := pick_ok (fu := fu) k3 (by omega) 8 (by decide)
      have ha : app l [x] = some (l ++ [x]) := app1 (by omega)
      have hr' : ∀ y ∈ l ++ [x], y.Light.Route.Fibers.length ≤ 20 := fun y hy => by
        rcases List.mem_append.1 hy with hy | hy
        · exact hr y hy
        · simp only [List.mem_singleton] at hy; subst hy; exact h3
      have hl' : (l ++ [x]).length + (n - 1) ≤ 6 := by simp; omega
      have g3' : spec_l1Cur_action fu ⟨b, a, s⟩ ⟨⟨p.Network.Nodes, p.Network.Fibers⟩, p.Lights⟩ = some (x, c3) := g3
      have hap' : spec_l20Apply fu ⟨⟨p.Network.Nodes, p.Network.Fibers⟩, p.Lights⟩ x = some r := hap
      simp only [hlt, decide_true, if_true, e, g3', hap', Option.bind_some, spec_l1Cur_one, g5, ha]
      have keep : ∀ t : Bool, ∃ l' n' m1 m2 m3 b' a' s', (if t = true then spec_l1Cur_actions_L1 fu good fk (l ++ [x]) ((n - 1 : Nat) : Int) p.Network.Nodes p.Network.Fibers p.Lights c5.code c5.at_ c5.seed else spec_l1Cur_actions_L1 fu good fk l ((n - 1 : Nat) : Int) p.Network.Nodes p.Network.Fibers p.Lights c5.code c5.at_ c5.seed) = some (l', n', m1, m2, m3, b', a', s') ∧ l'.length ≤ 6 ∧ (∀ x ∈ l', x.Light.Route.Fibers.length ≤ 20) ∧ Cur ⟨b', a', s'⟩ B := by
        intro t
        cases t
        · exact ih (n - 1) l p _ _ _ (k + 100 + 2) B k5 (by omega) hB hp hg (by omega) hr (by omega)
        · exact ih (n - 1) _ p _ _ _ (k + 100 + 2) B k5 (by omega) hB hp hg hl' hr' (by omega)
      cases hgd : good
      · simp only [Bool.false_eq_true, if_false, Option.bind_some]
        rw [hgd] at keep
        exact keep _
      · simp only [if_true, Option.bind_some]
        have hrr := hok hgd
        subst hrr
        rw [hgd] at hg
        cases h2 : (act p x).2
        · simp only [Bool.false_eq_true, if_false]
          rw [hgd] at keep
          exact keep _
        · simp only [if_true]
          have hq := act_ok hg h2
          have hqF := planF hq
          subst hgd
          refine ih (n - 1) _ (act p x).1 _ _ _ (k + 100) B k3 (by omega) hB ⟨by rw [act_net h2]; exact hp.net, by have := hqF.short; omega, fun y hy => by have := (hqF.light y hy).short; omega⟩ hq hl' hr' (by omega)
    · obtain rfl : n = 0 := by omega
      rw [if_neg (by simp)]
      exact ⟨_, _, _, _, _, _, _, _, rfl, by omega, hr, hc.mono (by omega)⟩
theorem actions_loop2 {fu : Nat} (hfu : 2097153 ≤ fu) : ∀ (fk : Nat) (l : List Action) (b : List By) (a : Int) (s : U64) (k B : Int), Cur ⟨b, a, s⟩ k → k ≤ B + 300 * (l.length : Int) → B ≤ 500000000 → l.length ≤ 9 → (∀ x ∈ l, x.Light.Route.Fibers.length ≤ 20) → 9 - l.length < fk →
    ∃ l' b' a' s', spec_l1Cur_actions_L2 fu fk l b a s = some (l', b', a', s') ∧ l'.length ≤ 9 ∧ (∀ x ∈ l', x.Light.Route.Fibers.length ≤ 20) ∧ Cur ⟨b', a', s'⟩ (B + 5000) := by
  intro fk
  induction fk with
  | zero => intro l _ _ _ _ _ _ _ _ _ _ h; omega
  | succ fk ih =>
    intro l b a s k B hc hk hB hl hr hf
    rw [spec_l1Cur_actions_L2]
    obtain ⟨r1, c1, g1, p0, p1, k1⟩ := pick_ok (fu := fu) hc (by omega) 2 (by decide)
    have p2 := p1 (by decide)
    have e : w64 (8 + r1) = 8 + r1 := w64_in (by omega) (by omega)
    obtain ⟨n, c2, g2, h2, h3, k2⟩ := linked_ok hfu k1 (by omega)
    obtain ⟨r, c3, g3, -, h4, -, k3⟩ := routed_ok hfu k2 (by omega) (n := n) h3 (by have := h2.f2; omega) (by have := h2.n2; omega)
    have ha : ∀ x : Action, app l [x] = some (l ++ [x]) := fun x => app1 (by omega)
    simp only [g1, g2, g3, ha, e, Option.bind_some]
    split
    · rename_i h
      have h' : (l.length : Int) < 8 + r1 := by simpa using h
      refine ih _ _ _ _ (k + 2 + 200 + 20) B k3 (by simp; omega) hB (by simp; omega) (fun y hy => ?_) (by simp; omega)
      rcases List.mem_append.1 hy with hy | hy
      · exact hr y hy
      · simp only [List.mem_singleton] at hy; subst hy; simp only; omega
    · exact ⟨_, _, _, _, rfl, hl, hr, k1.mono (by omega)⟩
theorem actions_ok {fu : Nat} (hfu : 2097153 ≤ fu) {c : L1CurP} {k : Int} (hc : Cur c k) (hk : k ≤ 400000000) {p : Plan} (hp : PlanD p) : ∃ l c', spec_l1Cur_actions fu c p = some (l, c') ∧ l.length ≤ 9 ∧ (∀ x ∈ l, x.Light.Route.Fibers.length ≤ 20) ∧ Cur c' (k + 10000) := by
  unfold spec_l1Cur_actions
  obtain ⟨r2, c2, g2, p0, p1, k2⟩ := pick_ok (fu := fu) hc (by omega) 6 (by decide)
  have p2 := p1 (by decide)
  obtain ⟨l3, n3, m1, m2, m3, b3, a3, s3, g3, h3, h4, k3⟩ := actions_loop hfu (planOk p) fu r2.toNat [] p c2.code c2.at_ c2.seed (k + 2) (k + 1000) k2 (by omega) (by omega) hp rfl (by simp; omega) (by simp) (by omega)
  rw [Int.toNat_of_nonneg p0] at g3
  obtain ⟨r4, c4, g4, -, -, k4⟩ := pick_ok (fu := fu) k3 (by omega) 24 (by decide)
  obtain ⟨l5, b5, a5, s5, g5, h5, h6, k5⟩ := actions_loop2 hfu fu l3 c4.code c4.at_ c4.seed (k + 1000 + 2) (k + 1002) k4 (by omega) (by omega) (by omega) h4 (by omega)
  simp only [specPlan_eq hfu p hp.B, g2, g3, Option.bind_some, spec_l1Cur_one, g4]
  split
  · simp only [g5, Option.bind_some]
    exact ⟨_, _, rfl, h5, h6, k5.mono (by omega)⟩
  · exact ⟨_, _, rfl, by omega, h4, k4.mono (by omega)⟩
theorem drawActions {fu : Nat} (hfu : 2097153 ≤ fu) {x : List By} (hc : Cur ⟨x, 0, ⟨0⟩⟩ 0) : ∃ p l, spec_DrawApplyActions fu x = some (p, l) ∧ PlanD p ∧ l.length ≤ 9 ∧ ∀ a ∈ l, a.Light.Route.Fibers.length ≤ 20 := by
  unfold spec_DrawApplyActions
  obtain ⟨p, c1, g1, h1, k1⟩ := anyPlan_ok hfu hc (by omega)
  obtain ⟨l, c2, g2, h2, h3, k2⟩ := actions_ok hfu k1 (by omega) h1
  simp only [g1, g2, Option.bind_some]
  exact ⟨_, _, rfl, h1, h2, h3⟩
end AT

namespace AT
theorem vInts_self {fu : Nat} (hfu : 2097153 ≤ fu) (l : List Int) (h : l.length ≤ 2097152) : laws_vInts fu l l = some true := by
  unfold laws_vInts
  have h1 : ((l.length : Int) != (l.length : Int)) = false := by simp
  rw [h1, if_neg Bool.false_ne_true, eq_all0 l (laws_vInts_L1 fu l l) h (fun fk i => by rw [laws_vInts_L1]) fu (by omega)]
  rfl
theorem vLights_self {fu : Nat} (hfu : 2097153 ≤ fu) (x : Light) (h : x.Route.Fibers.length ≤ 2097152) : laws_vLights fu x x = some true := by
  unfold laws_vLights laws_vRoutes
  rw [vInts_self hfu _ h]
  simp
theorem vNetworks_self {fu : Nat} (hfu : 2097153 ≤ fu) (n : Network) (h : NetB n) : laws_vNetworks fu n n = some true := by
  unfold laws_vNetworks
  have h1 : ((n.Nodes.length : Int) != (n.Nodes.length : Int)) = false := by simp
  have h2 : ((n.Fibers.length : Int) != (n.Fibers.length : Int)) = false := by simp
  have e1 : laws_vNetworks_L1 fu n n fu 0 = some (.next (n.Nodes.length : Int)) := by
    rw [scan_all (l := n.Nodes) (G := laws_vNetworks_L1 fu n n) (fun _ => false) (fun _ => false) (by have := h.1.1; omega)
      (fun fk i hi => by
        have h' : (i : Int) < (n.Nodes.length : Int) := by omega
        rw [laws_vNetworks_L1]
        simp only [h', decide_true, if_true, idx_in hi, Option.bind_some, beq_self_eq_true, Bool.not_true])
      (fun fk => by rw [laws_vNetworks_L1, if_neg (by simp)]) fu (by have := h.1.1; omega)]
    simp
  have e2 : laws_vNetworks_L2 fu n n fu 0 = some (.next (n.Fibers.length : Int)) := by
    rw [scan_all (l := n.Fibers) (G := laws_vNetworks_L2 fu n n) (fun _ => false) (fun _ => false) (by have := h.2; omega)
      (fun fk i hi => by
        have h' : (i : Int) < (n.Fibers.length : Int) := by omega
        rw [laws_vNetworks_L2]
        simp only [h', decide_true, if_true, idx_in hi, Option.bind_some, beq_self_eq_true, Bool.not_true])
      (fun fk => by rw [laws_vNetworks_L2, if_neg (by simp)]) fu (by have := h.2; omega)]
    simp
  rw [h1, if_neg Bool.false_ne_true, h2, Option.bind_some, if_neg Bool.false_ne_true, e1, e2]
  rfl
theorem vPlans_self {fu : Nat} (hfu : 2097153 ≤ fu) (p : Plan) (h : PlanB p) : laws_vPlans fu p p = some true := by
  unfold laws_vPlans
  have h1 : ((p.Lights.length : Int) != (p.Lights.length : Int)) = false := by simp
  rw [vNetworks_self hfu _ h.1, h1, eq_all1 p.Lights (laws_vPlans_L1 fu p p) (laws_vLights fu) h.2.1 (fun e he => vLights_self hfu e (h.2.2 e he)) (fun fk i => by rw [laws_vPlans_L1]) fu (by have := h.2.1; omega)]
  rfl
end AT

namespace AT
def ChangeB (c : Change) : Prop := PlanB c.Plan ∧ ActsB c.Actions ∧ ActsB c.Undo
def changeOk (c : Change) : Bool := planOk c.Plan && (decide (c.Actions.length + c.Undo.length ≤ 8) && (!(c.Back && decide (0 < c.Actions.length)) && decide ((acts c.Undo c.Plan).2 = c.Undo.length)))
theorem isValidChange_eq {fu : Nat} (hfu : 2097153 ≤ fu) (c : Change) (hB : ChangeB c) : impl_IsValidChange fu c = some (changeOk c) := by
  obtain ⟨h1, h2, h3⟩ := hB
  have l2 := h2.1
  have l3 := h3.1
  unfold impl_IsValidChange changeOk
  rw [implPlan_eq hfu _ h1]
  simp only [Option.bind_some]
  cases hp : planOk c.Plan
  · rfl
  · have hw : decide (w64 ((c.Actions.length : Int) + (c.Undo.length : Int)) > 8) = !decide (c.Actions.length + c.Undo.length ≤ 8) := by
      rw [w64_in (by omega) (by omega), ← decide_not]
      simp only [decide_eq_decide]
      omega
    have h0 : decide ((c.Actions.length : Int) > 0) = decide (0 < c.Actions.length) := by simp only [decide_eq_decide]; omega
    have hn : (((acts c.Undo c.Plan).2 : Int) == (c.Undo.length : Int)) = decide ((acts c.Undo c.Plan).2 = c.Undo.length) := by
      rw [Bool.eq_iff_iff, beq_iff_eq, decide_eq_true_eq]
      omega
    simp only [hw, h0, applied_eq hfu _ _ h3 hp h1, hn, Bool.not_true, Bool.false_eq_true, if_false, Bool.true_and]
    cases decide (c.Actions.length + c.Undo.length ≤ 8) <;> cases c.Back <;> cases decide (0 < c.Actions.length) <;> simp [hn]
end AT

namespace AT
def inv (p : Plan) (a : Action) : Action := if a.Kind = 1 then ⟨2, a.Light⟩ else if a.Kind = 2 then ⟨1, a.Light⟩ else ⟨3, gd p.Lights (atId p.Lights a.Light.Id) l0⟩
theorem gd_putL (L : List Light) (x : Light) : gd (putL L x) (insAt L x.Id) l0 = x := by
  have h := insAt_le L x.Id
  unfold putL gd
  rw [List.getElem?_append_right (by rw [List.length_take]; omega), List.length_take, Nat.min_eq_left h, Nat.sub_self]
  rfl
theorem putL_erase (L : List Light) (x : Light) : (putL L x).eraseIdx (insAt L x.Id) = L := by
  have h := insAt_le L x.Id
  unfold putL
  rw [List.eraseIdx_append_of_length_le (by rw [List.length_take]; omega), List.length_take, Nat.min_eq_left h, Nat.sub_self, List.eraseIdx_cons_zero, List.take_append_drop]
theorem has_put (p : Plan) (x : Light) : has_ (addP p x) x.Id = true := by
  unfold has_ addP
  rw [List.any_eq_true]
  exact ⟨x, putL_mem.2 (.inl rfl), by simp⟩
theorem set_gd (L : List Light) (i : Nat) (h : i < L.length) : L.set i (gd L i l0) = L := by
  rw [gd_in l0 h, List.set_getElem_self]
theorem act_inv {p : Plan} {a : Action} (hp : planOk p = true) (h : (act p a).2 = true) : act (act p a).1 (inv p a) = (p, true) := by
  have hI := (planI hp).ids
  have hq := act_ok hp h
  by_cases k1 : a.Kind = 1
  · have e : act p a = (addP p a.Light, true) := by
      unfold act at h ⊢
      rw [if_pos k1] at h ⊢
      by_cases g : planOk (addP p a.Light) = true
      · rw [if_pos g]
      · rw [if_neg g] at h; cases h
    rw [e] at hq ⊢
    have hJ := (planI hq).ids
    have hlt : insAt p.Lights a.Light.Id < (putL p.Lights a.Light).length := by have := insAt_le p.Lights a.Light.Id; rw [putL_len]; omega
    have hat : atId (putL p.Lights a.Light) a.Light.Id = insAt p.Lights a.Light.Id := by
      have := atId_eq (L := putL p.Lights a.Light) hJ hlt
      rw [gd_putL] at this
      exact this
    unfold inv
    rw [if_pos k1]
    unfold act
    rw [if_neg (by show ¬(2 : Int) = 1; decide), if_pos rfl]
    have e3 : (addP p a.Light).Lights = putL p.Lights a.Light := rfl
    rw [if_pos ⟨has_put p a.Light, by show gd (addP p a.Light).Lights (atId (addP p a.Light).Lights a.Light.Id) l0 = a.Light; rw [e3, hat, gd_putL]⟩]
    show (delP (addP p a.Light) (atId (addP p a.Light).Lights a.Light.Id), true) = _
    rw [e3, hat]
    unfold delP
    rw [e3, putL_erase]
    rfl
  · by_cases k2 : a.Kind = 2
    · have e : (has_ p a.Light.Id = true ∧ gd p.Lights (atId p.Lights a.Light.Id) l0 = a.Light) ∧ act p a = (delP p (atId p.Lights a.Light.Id), true) := by
        unfold act at h ⊢
        rw [if_neg k1, if_pos k2] at h ⊢
        by_cases g : has_ p a.Light.Id = true ∧ gd p.Lights (atId p.Lights a.Light.Id) l0 = a.Light
        · rw [if_pos g]; exact ⟨g, rfl⟩
        · rw [if_neg g] at h; cases h
      obtain ⟨⟨g1, g2⟩, e⟩ := e
      have hlt := atId_lt g1
      have back : addP (delP p (atId p.Lights a.Light.Id)) a.Light = p := by
        unfold addP delP
        show ({ Network := p.Network, Lights := putL (p.Lights.eraseIdx (atId p.Lights a.Light.Id)) a.Light } : Plan) = p
        rw [put_erase hI hlt (by rw [g2])]
        have := set_gd p.Lights _ hlt
        rw [g2] at this
        rw [this]
      rw [e]
      unfold inv
      rw [if_neg k1, if_pos k2]
      unfold act
      rw [if_pos rfl]
      show (if planOk (addP (delP p (atId p.Lights a.Light.Id)) a.Light) = true then _ else _) = _
      rw [back, if_pos hp]
    · have k3 : a.Kind = 3 := by
        unfold act at h
        rw [if_neg k1, if_neg k2] at h
        by_cases k : a.Kind = 3
        · exact k
        · rw [if_neg k] at h; cases h
      obtain ⟨g1, g2, g3⟩ := act_move k3 h
      have hlt := atId_lt g1
      have hid := atId_gd g1
      have hJ := (planI g2).ids
      have e3 : (setP p (atId p.Lights a.Light.Id) a.Light).Lights = p.Lights.set (atId p.Lights a.Light.Id) a.Light := rfl
      have hlt2 : atId p.Lights a.Light.Id < (p.Lights.set (atId p.Lights a.Light.Id) a.Light).length := by rw [List.length_set]; exact hlt
      have hat : atId (p.Lights.set (atId p.Lights a.Light.Id) a.Light) a.Light.Id = atId p.Lights a.Light.Id := by
        have := atId_eq (L := p.Lights.set (atId p.Lights a.Light.Id) a.Light) hJ (i := atId p.Lights a.Light.Id) hlt2
        rw [gd_set, if_pos ⟨rfl, hlt⟩] at this
        exact this
      have hh : has_ (setP p (atId p.Lights a.Light.Id) a.Light) a.Light.Id = true := by
        unfold has_
        rw [e3, List.any_eq_true]
        exact ⟨a.Light, List.mem_set hlt _, by simp⟩
      have back : setP (setP p (atId p.Lights a.Light.Id) a.Light) (atId p.Lights a.Light.Id) (gd p.Lights (atId p.Lights a.Light.Id) l0) = p := by
        unfold setP
        show ({ Network := p.Network, Lights := (p.Lights.set (atId p.Lights a.Light.Id) a.Light).set (atId p.Lights a.Light.Id) (gd p.Lights (atId p.Lights a.Light.Id) l0) } : Plan) = p
        rw [List.set_set, set_gd p.Lights _ hlt]
      rw [g3]
      unfold inv
      rw [if_neg k1, if_neg k2]
      unfold act
      rw [if_neg (by show ¬(3 : Int) = 1; decide), if_neg (by show ¬(3 : Int) = 2; decide), if_pos rfl]
      show (if has_ (setP p (atId p.Lights a.Light.Id) a.Light) (gd p.Lights (atId p.Lights a.Light.Id) l0).Id = true ∧ planOk (setP (setP p (atId p.Lights a.Light.Id) a.Light) (atId (setP p (atId p.Lights a.Light.Id) a.Light).Lights (gd p.Lights (atId p.Lights a.Light.Id) l0).Id) (gd p.Lights (atId p.Lights a.Light.Id) l0)) = true then (setP (setP p (atId p.Lights a.Light.Id) a.Light) (atId (setP p (atId p.Lights a.Light.Id) a.Light).Lights (gd p.Lights (atId p.Lights a.Light.Id) l0).Id) (gd p.Lights (atId p.Lights a.Light.Id) l0), true) else _) = _
      rw [hid, e3, hat, back, if_pos ⟨hh, hp⟩]
theorem inv_len {p : Plan} {a : Action} (hB : PlanB p) (ha : a.Light.Route.Fibers.length ≤ 2097152) (h : (act p a).2 = true) : (inv p a).Light.Route.Fibers.length ≤ 2097152 := by
  unfold inv
  split
  · exact ha
  · split
    · exact ha
    · rename_i k1 k2
      have k3 : a.Kind = 3 := by
        unfold act at h
        rw [if_neg k1, if_neg k2] at h
        by_cases k : a.Kind = 3
        · exact k
        · rw [if_neg k] at h; cases h
      exact hB.2.2 _ (gd_mem l0 (atId_lt (act_move k3 h).1))
def step (c : Change) : Change :=
  match c.Back, c.Actions, c.Undo with
  | false, a :: l, u => if (act c.Plan a).2 = true then ⟨(act c.Plan a).1, l, inv c.Plan a :: u, false⟩ else ⟨c.Plan, [], u, true⟩
  | true, l, a :: u => ⟨(act c.Plan a).1, l, u, true⟩
  | _, _, _ => c
structure ChF (c : Change) : Prop where
  ok : planOk c.Plan = true
  B : ChangeB c
  len : c.Actions.length + c.Undo.length ≤ 8
  back : c.Back = true → c.Actions = []
  undo : (acts c.Undo c.Plan).2 = c.Undo.length
theorem acts_cons {a : Action} {l : List Action} {p : Plan} (h : (acts (a :: l) p).2 = (a :: l).length) : (act p a).2 = true ∧ (acts l (act p a).1).2 = l.length := by
  unfold acts at h
  by_cases g : (act p a).2 = true
  · rw [if_pos g] at h
    simp only [List.length_cons] at h
    exact ⟨g, by omega⟩
  · rw [if_neg g] at h
    simp at h
theorem step_F {c : Change} (h : ChF c) : ChF (step c) := by
  obtain ⟨P, A, U, b⟩ := c
  obtain ⟨h1, ⟨h2, h3, h4⟩, h5, h6, h7⟩ := h
  simp only at h1 h2 h3 h4 h5 h6 h7
  cases b with
  | false =>
    cases A with
    | nil => exact ⟨h1, ⟨h2, h3, h4⟩, h5, h6, h7⟩
    | cons a l =>
      have ha := h3.2 a (by simp)
      show ChF (if (act P a).2 = true then ⟨(act P a).1, l, inv P a :: U, false⟩ else ⟨P, [], U, true⟩)
      simp only [List.length_cons] at h5
      by_cases g : (act P a).2 = true
      · rw [if_pos g]
        refine ⟨act_ok h1 g, ⟨act_B h2 h1 ha g, ⟨(by show l.length ≤ 2097152; omega), fun x hx => h3.2 x (by simp [hx])⟩, ⟨(by show (inv P a :: U).length ≤ 2097152; rw [List.length_cons]; omega), fun x hx => ?_⟩⟩, (by show l.length + (inv P a :: U).length ≤ 8; rw [List.length_cons]; omega), fun hb => (by cases hb), ?_⟩
        · rcases List.mem_cons.1 hx with rfl | hx
          · exact inv_len h2 ha g
          · exact h4.2 x hx
        · show (acts (inv P a :: U) (act P a).1).2 = (inv P a :: U).length
          unfold acts
          rw [act_inv h1 g, if_pos rfl, List.length_cons]
          show (acts U P).2 + 1 = _
          rw [h7]
      · rw [if_neg g]
        exact ⟨h1, ⟨h2, ⟨by simp, by simp⟩, h4⟩, (by show 0 + U.length ≤ 8; omega), fun _ => rfl, h7⟩
  | true =>
    cases U with
    | nil => exact ⟨h1, ⟨h2, h3, h4⟩, h5, h6, h7⟩
    | cons a u =>
      obtain ⟨g1, g2⟩ := acts_cons h7
      have ha := h4.2 a (by simp)
      simp only [List.length_cons] at h5
      show ChF ⟨(act P a).1, A, u, true⟩
      have k1 : u.length ≤ 2097152 := by omega
      have k2 : A.length + u.length ≤ 8 := by omega
      exact ⟨act_ok h1 g1, ⟨act_B h2 h1 ha g1, h3, ⟨k1, fun x hx => h4.2 x (by simp [hx])⟩⟩, k2, h6, g2⟩
end AT

namespace AT
theorem act_kind {p : Plan} {a : Action} (h : (act p a).2 = true) (k1 : ¬a.Kind = 1) (k2 : ¬a.Kind = 2) : a.Kind = 3 := by
  unfold act at h
  rw [if_neg k1, if_neg k2] at h
  by_cases k : a.Kind = 3
  · exact k
  · rw [if_neg k] at h; cases h
def zeroA : Action := ⟨0, ⟨0, ⟨0, []⟩, ⟨0, 0⟩⟩⟩
theorem inverse_eq {fu : Nat} (hfu : 2097153 ≤ fu) (p : Plan) (a : Action) (hB : PlanB p) (ha : a.Light.Route.Fibers.length ≤ 2097152) : impl_InverseAction fu p a = some (if planOk p = true ∧ (act p a).2 = true then (inv p a, true) else (zeroA, false)) := by
  have hl := hB.2.1
  unfold impl_InverseAction
  rw [apply_eq hfu p a hB ha]
  cases hp : planOk p
  · rfl
  cases h : (act p a).2
  · simp only [Option.bind_some, if_true, h, Bool.not_false, Bool.false_eq_true, and_false, if_false]
    rfl
  simp only [Option.bind_some, if_true, h, Bool.not_true, Bool.false_eq_true, if_false, and_self]
  unfold inv
  by_cases k1 : a.Kind = 1
  · simp only [k1, beq_self_eq_true, if_true, copyLight_eq fu _ ha, Option.bind_some]
  · have e1 : (a.Kind == 1) = false := by rw [beq_eq_false_iff_ne]; exact k1
    rw [e1, if_neg Bool.false_ne_true, if_neg k1]
    by_cases k2 : a.Kind = 2
    · simp only [k2, beq_self_eq_true, if_true, copyLight_eq fu _ ha, Option.bind_some]
    · have e2 : (a.Kind == 2) = false := by rw [beq_eq_false_iff_ne]; exact k2
      rw [e2, if_neg Bool.false_ne_true, if_neg k2]
      obtain ⟨g1, g2, g3⟩ := act_move (act_kind h k1 k2) h
      have hi := atId_lt g1
      have g1' : (p.Lights.any fun y => y.Id == a.Light.Id) = true := g1
      rw [lightAt_eq p _ (by omega) hl]
      simp only [g1', if_true, Option.bind_some, idx_gd l0 hi, copyLight_eq fu _ (hB.2.2 _ (gd_mem l0 hi))]
end AT

namespace AT
theorem applyActions_eq {fu : Nat} (hfu : 2097153 ≤ fu) (p : Plan) (l : List Action) (hB : PlanB p) (hA : ActsB l) : impl_ApplyActions fu p l = some (if planOk p = true ∧ l.length ≤ 8 then (if (acts l p).2 < l.length then (p, ((acts l p).2 : Int), true) else ((acts l p).1, ((acts l p).2 : Int), true)) else (zeroP, 0, false)) := by
  unfold impl_ApplyActions
  rw [implPlan_eq hfu p hB]
  simp only [Option.bind_some]
  cases hp : planOk p
  · rfl
  · by_cases h : (l.length : Int) > 8
    · have h' : ¬ l.length ≤ 8 := by omega
      simp only [Bool.not_true, Bool.false_eq_true, if_false, h, decide_true, Option.bind_some, if_true, h', and_false]
      rfl
    · have h' : l.length ≤ 8 := by omega
      simp only [Bool.not_true, Bool.false_eq_true, if_false, h, decide_false, Option.bind_some, applied_eq hfu p l hA hp hB, copyPlan_eq hfu p hB, h', and_self, if_true]
      by_cases g : (acts l p).2 < l.length
      · have g' : (((acts l p).2 : Nat) : Int) < (l.length : Int) := by omega
        simp only [g, g', decide_true, if_true, Option.bind_some]
      · have g' : ¬ (((acts l p).2 : Nat) : Int) < (l.length : Int) := by omega
        simp only [g, g', decide_false, if_false, Bool.false_eq_true, Option.bind_some]
end AT

namespace AT
theorem implStart_eq {fu : Nat} (hfu : 2097153 ≤ fu) (p : Plan) (l : List Action) (hB : PlanB p) (hA : ActsB l) : impl_StartChange fu p l = some (if planOk p = true ∧ l.length ≤ 8 then (⟨p, l, [], false⟩, true) else (⟨zeroP, [], [], false⟩, false)) := by
  unfold impl_StartChange
  rw [implPlan_eq hfu p hB]
  simp only [Option.bind_some]
  cases hp : planOk p
  · rfl
  · by_cases h : (l.length : Int) > 8
    · have h' : ¬ l.length ≤ 8 := by omega
      simp only [Bool.not_true, Bool.false_eq_true, if_false, h, decide_true, Option.bind_some, if_true, h', and_false]
      rfl
    · have h' : l.length ≤ 8 := by omega
      simp only [Bool.not_true, Bool.false_eq_true, if_false, h, decide_false, Option.bind_some, copyChange_eq hfu ⟨p, l, [], false⟩ hB hA ⟨by simp, by simp⟩, h', and_self, if_true]
theorem specStart_eq {fu : Nat} (hfu : 2097153 ≤ fu) (p : Plan) (l : List Action) (hB : PlanB p) (hA : ActsB l) : spec_StartChange fu p l = some (if planOk p = true ∧ l.length ≤ 8 then (⟨p, l, [], false⟩, true) else (⟨zeroP, [], [], false⟩, false)) := by
  unfold spec_StartChange
  rw [specPlan_eq hfu p hB]
  simp only [Option.bind_some]
  cases hp : planOk p
  · rfl
  · by_cases h : (l.length : Int) > 8
    · have h' : ¬ l.length ≤ 8 := by omega
      simp only [Bool.not_true, Bool.false_eq_true, if_false, h, decide_true, Option.bind_some, if_true, h', and_false]
      rfl
    · have h' : l.length ≤ 8 := by omega
      simp only [Bool.not_true, Bool.false_eq_true, if_false, h, decide_false, Option.bind_some, l9Own_eq hfu p hB, l20Copies_eq hfu l hA, h', and_self, if_true]
end AT
