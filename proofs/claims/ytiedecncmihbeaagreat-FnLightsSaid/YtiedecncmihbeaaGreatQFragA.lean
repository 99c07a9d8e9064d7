/- Draws of networks, routes and blocks, plainly: they come to an end, and what they yield is small. -/
import Derived.Test.YtiedecncmihbeaaGreatQCur
import Derived.Test.YtiedecncmihbeaaGreatQAct
set_option linter.unusedSimpArgs false
set_option linter.unusedVariables false
namespace AT
structure NetD (n : Network) : Prop where
  n1 : 1 ≤ n.Nodes.length
  n2 : n.Nodes.length ≤ 20
  ns : ∀ e ∈ n.Nodes, e.size ≤ 100
  f2 : n.Fibers.length ≤ 20
theorem NetD.B {n : Network} (h : NetD n) : NetB n := ⟨⟨by have := h.n2; omega, fun e he => by have := h.ns e he; omega⟩, by have := h.f2; omega⟩
theorem rem_ok {a n : Int} (ha : 0 ≤ a) (hn : 0 < n) : ∃ q, rem a n = some q ∧ 0 ≤ q ∧ q < n := by
  unfold rem
  rw [if_neg (by omega), Int.tmod_eq_emod_of_nonneg ha]
  exact ⟨_, rfl, Int.emod_nonneg _ (by omega), Int.emod_lt_of_pos _ hn⟩
theorem app1 {α : Type} {l : List α} {x : α} (h : l.length ≤ 1000000) : app l [x] = some (l ++ [x]) := app_ok (by simp; omega)
theorem least_ex (fu : Nat) (a b : Int) : ∃ r, spec_l1Least fu a b = some r ∧ (r = a ∨ r = b) := by
  unfold spec_l1Least; split <;> exact ⟨_, rfl, by simp⟩
theorem most_ex (fu : Nat) (a b : Int) : ∃ r, spec_l1Most fu a b = some r ∧ (r = a ∨ r = b) := by
  unfold spec_l1Most; split <;> exact ⟨_, rfl, by simp⟩
theorem l2Put_loop {fu : Nat} (l : List Fiber) (f : Fiber) (hl : l.length ≤ 1000000) : ∀ (fk i : Nat), i ≤ l.length → l.length - i < fk → ∃ j : Nat, spec_l2Put_L1 fu l f fk i = some (j : Int) ∧ j ≤ l.length := by
  intro fk
  induction fk with
  | zero => intro i _ h; omega
  | succ fk ih =>
    intro i hi hf
    rw [spec_l2Put_L1]
    by_cases h : i < l.length
    · have hlt : ((i : Int) < (l.length : Int)) = True := by simp; omega
      simp only [hlt, decide_true, if_true, idx_in h, Option.bind_some, l2Before_eq, w64_inc h (show (l.length : Int) ≤ 9223372036854775807 by omega)]
      split
      · exact ih (i + 1) h (by omega)
      · exact ⟨i, rfl, hi⟩
    · have hlt : ((i : Int) < (l.length : Int)) = False := by simp; omega
      simp only [hlt, decide_false, Bool.false_eq_true, if_false, Option.bind_some]
      exact ⟨i, rfl, hi⟩
theorem l2Put_ok {fu : Nat} (hfu : 2097153 ≤ fu) (l : List Fiber) (f : Fiber) (hl : l.length ≤ 1000000) : ∃ r, spec_l2Put fu l f = some r ∧ r.length = l.length + 1 := by
  unfold spec_l2Put
  obtain ⟨j, h1, h2⟩ := l2Put_loop (fu := fu) l f hl fu 0 (by omega) (by omega)
  have hs : sub l (j : Int) (l.length : Int) = some (l.drop j) := by
    unfold sub
    rw [if_pos (by omega)]
    simp
  rw [show ((0 : Nat) : Int) = 0 from rfl] at h1
  rw [h1, Option.bind_some, sub_take h2, Option.bind_some, hs, Option.bind_some, app_nil (by rw [List.length_take]; omega), Option.bind_some, app_ok (by rw [List.length_take, List.length_singleton]; omega), Option.bind_some, app_ok (by rw [List.length_append, List.length_take, List.length_singleton, List.length_drop]; omega), Option.bind_some]
  refine ⟨_, rfl, ?_⟩
  simp only [List.length_append, List.length_take, List.length_singleton, List.length_drop]
  omega
theorem net_loop1 {fu : Nat} (hfu : 2097153 ≤ fu) (y : Int × L1CurP) (K : Nat) (hK : w64 (2 + y.1) = (K : Int)) (h2 : 2 ≤ K) (h6 : K ≤ 6) : ∀ (fk i : Nat) (m : List By) (m2 : Int) (m3 : U64) (l : List Fiber) (k B : Int), Cur ⟨m, m2, m3⟩ k → k ≤ B + 10 * (i : Int) → B ≤ 1000000000 → l.length ≤ i → i ≤ K → K - i < fk →
    ∃ i' m' a' s' l', spec_l1Cur_network_L1 fu y fk i m m2 m3 l = some (i', m', a', s', l') ∧ l'.length ≤ K ∧ Cur ⟨m', a', s'⟩ (B + 10 * (K : Int)) := by
  intro fk
  induction fk with
  | zero => intro i _ _ _ _ _ _ _ _ _ _ _ h; omega
  | succ fk ih =>
    intro i m m2 m3 l k B hc hk hB hl hi hf
    rw [spec_l1Cur_network_L1, hK]
    by_cases h : i < K
    · have hlt : ((i : Int) < (K : Int)) = True := by simp; omega
      have e : w64 ((i : Int) + 1) = ((i + 1 : Nat) : Int) := w64_inc h (by omega)
      obtain ⟨q, hq, q0, q1⟩ := rem_ok (a := ((i + 1 : Nat) : Int)) (n := (K : Int)) (by omega) (by omega)
      obtain ⟨r1, c1, g1, -, -, k1⟩ := pick_ok (fu := fu) hc (by omega) 10 (by decide)
      simp only [hlt, decide_true, if_true, e, hq, Option.bind_some, spec_l1Cur_one, g1]
      have k1' : Cur ⟨c1.code, c1.at_, c1.seed⟩ (k + 2) := k1
      split
      · exact ih (i + 1) _ _ _ _ k B hc (by omega) hB (by omega) h (by omega)
      · split
        · exact ih (i + 1) _ _ _ _ (k + 2) B k1' (by omega) hB (by omega) h (by omega)
        · obtain ⟨r3, g3, -⟩ := least_ex fu (i : Int) q
          obtain ⟨r4, g4, -⟩ := most_ex fu (i : Int) q
          obtain ⟨r5, c5, g5, -, -, k5⟩ := pick_ok (fu := fu) k1 (by omega) 8 (by decide)
          obtain ⟨r6, c6, g6, -, k6⟩ := among_ok (fu := fu) k5 (by omega) [0, 0, 0, 1, 2] (by decide) (by decide)
          obtain ⟨r7, g7, h7⟩ := l2Put_ok hfu l ({ A := r3, B := r4, Length := w64 (100 * (w64 (1 + r5))), Risk := r6 } : Fiber) (by omega)
          simp only [g3, g4, g5, g6, g7, Option.bind_some]
          exact ih (i + 1) _ _ _ _ (k + 2 + 2 + 2) B k6 (by omega) hB (by omega) h (by omega)
    · obtain rfl : i = K := by omega
      have hlt : ((i : Int) < (i : Int)) = False := by simp
      simp only [hlt, decide_false, Bool.false_eq_true, if_false]
      exact ⟨_, _, _, _, _, rfl, hl, hc.mono (by omega)⟩
theorem net_loop2 {fu : Nat} (hfu : 2097153 ≤ fu) (y : Int × L1CurP) (K : Nat) (hK : w64 (2 + y.1) = (K : Int)) (h2 : 2 ≤ K) (h6 : K ≤ 6) : ∀ (fk n : Nat) (l : List Fiber) (m : List By) (m2 : Int) (m3 : U64) (k B : Int), Cur ⟨m, m2, m3⟩ k → k ≤ B - 10 * (n : Int) → B ≤ 1000000000 → l.length + n ≤ 9 → n < fk →
    ∃ i' l' m' a' s', spec_l1Cur_network_L2 fu y fk (n : Int) l m m2 m3 = some (i', l', m', a', s') ∧ l'.length ≤ 9 ∧ l.length ≤ l'.length ∧ Cur ⟨m', a', s'⟩ B := by
  intro fk
  induction fk with
  | zero => intro n _ _ _ _ _ _ _ _ _ _ h; omega
  | succ fk ih =>
    intro n l m m2 m3 k B hc hk hB hl hf
    rw [spec_l1Cur_network_L2, hK]
    by_cases h : 0 < n
    · have hlt : ((n : Int) > 0) = True := by simp; omega
      have e : w64 ((n : Int) - 1) = ((n - 1 : Nat) : Int) := w64_dec h (by omega)
      obtain ⟨r1, c1, g1, -, -, k1⟩ := pick_ok (fu := fu) hc (by omega) (K : Int) (by omega)
      obtain ⟨r2, c2, g2, -, -, k2⟩ := pick_ok (fu := fu) k1 (by omega) (K : Int) (by omega)
      simp only [hlt, decide_true, if_true, e, g1, g2, Option.bind_some]
      split
      · obtain ⟨r3, g3, -⟩ := least_ex fu r1 r2
        obtain ⟨r4, g4, -⟩ := most_ex fu r1 r2
        obtain ⟨r5, c5, g5, -, -, k5⟩ := pick_ok (fu := fu) k2 (by omega) 8 (by decide)
        obtain ⟨r6, c6, g6, -, k6⟩ := among_ok (fu := fu) k5 (by omega) [0, 0, 0, 1, 2] (by decide) (by decide)
        obtain ⟨r7, g7, h7⟩ := l2Put_ok hfu l ({ A := r3, B := r4, Length := w64 (100 * (w64 (1 + r5))), Risk := r6 } : Fiber) (by omega)
        simp only [g3, g4, g5, g6, g7, Option.bind_some]
        obtain ⟨i', l', m', a', s', q1, q2, q3, q4⟩ := ih (n - 1) r7 _ _ _ (k + 2 + 2 + 2 + 2) B k6 (by omega) hB (by omega) (by omega)
        exact ⟨i', l', m', a', s', q1, q2, by omega, q4⟩
      · exact ih (n - 1) _ _ _ _ (k + 2 + 2) B k2 (by omega) hB (by omega) (by omega)
    · obtain rfl : n = 0 := by omega
      rw [if_neg (by simp)]
      exact ⟨_, _, _, _, _, rfl, by omega, Nat.le_refl _, hc.mono (by omega)⟩
theorem network_ok {fu : Nat} (hfu : 2097153 ≤ fu) {c : L1CurP} {k : Int} (hc : Cur c k) (hk : k ≤ 900000000) : ∃ r c', spec_l1Cur_network fu c = some (r, c') ∧ NetD r ∧ r.Nodes.length ≤ 6 ∧ r.Fibers.length ≤ 9 ∧ Cur c' (k + 200) := by
  unfold spec_l1Cur_network
  obtain ⟨r1, c1, g1, p0, p1, k1⟩ := pick_ok (fu := fu) hc (by omega) 5 (by decide)
  have p2 := p1 (by decide)
  have hK : w64 (2 + r1) = (((2 + r1).toNat : Nat) : Int) := by rw [w64_in (by omega) (by omega)]; omega
  have hK2 : 2 ≤ (2 + r1).toNat := by omega
  have hK6 : (2 + r1).toNat ≤ 6 := by omega
  obtain ⟨i2, m2, a2, s2, l2, g2, h2, k2⟩ := net_loop1 hfu (r1, c1) (2 + r1).toNat hK hK2 hK6 fu 0 c1.code c1.at_ c1.seed [] (k + 2) (k + 2) k1 (by omega) (by omega) (by simp) (by omega) (by omega)
  obtain ⟨r3, c3, g3, q0, q1, k3⟩ := pick_ok (fu := fu) k2 (by omega) 4 (by decide)
  have q2 := q1 (by decide)
  obtain ⟨i4, l4, m4, a4, s4, g4, h4, -, k4⟩ := net_loop2 hfu (r1, c1) (2 + r1).toNat hK hK2 hK6 fu r3.toNat l2 c3.code c3.at_ c3.seed (k + 2 + 10 * ((2 + r1).toNat : Int) + 2) (k + 200) k3 (by omega) (by omega) (by omega) (by omega)
  rw [Int.ofNat_zero] at g2
  rw [Int.toNat_of_nonneg q0] at g4
  simp only [g1, Option.bind_some, hK]
  rw [sub_take (by simp; omega)]
  simp only [g2, g3, g4, Option.bind_some]
  refine ⟨_, _, rfl, ⟨by simp; omega, by simp; omega, fun e he => ?_, by simp only; omega⟩, by simp; omega, h4, k4⟩
  have he' := List.mem_of_mem_take he
  simp only [List.mem_cons, List.not_mem_nil, or_false] at he'
  rcases he' with rfl | rfl | rfl | rfl | rfl | rfl <;> decide
theorem linked_ok {fu : Nat} (hfu : 2097153 ≤ fu) {c : L1CurP} {k : Int} (hc : Cur c k) (hk : k ≤ 900000000) : ∃ r c', spec_l1Cur_linked fu c = some (r, c') ∧ NetD r ∧ 1 ≤ r.Fibers.length ∧ Cur c' (k + 200) := by
  unfold spec_l1Cur_linked
  obtain ⟨r, c', g1, h1, h2, h3, k1⟩ := network_ok hfu hc hk
  simp only [g1, Option.bind_some]
  split
  · rename_i h
    have h0 : r.Fibers.length = 0 := by simpa using h
    rw [app1 (by omega)]
    exact ⟨_, _, rfl, ⟨h1.n1, h1.n2, h1.ns, by simp; omega⟩, by simp, k1⟩
  · rename_i h
    have h0 : r.Fibers.length ≠ 0 := by simpa using h
    exact ⟨_, _, rfl, h1, by omega, k1⟩
/-! ### Routes -/
theorem route_loop2 {fu : Nat} (hfu : 2097153 ≤ fu) (n : Network) (y : Int × L1CurP) (seen : List Int) (hn : n.Fibers.length ≤ 1000000) (h1 : 1 ≤ seen.length) (h2 : seen.length ≤ 1000000) : ∀ (fk i : Nat) (o : List Int), i ≤ n.Fibers.length → n.Fibers.length - i < fk → o.length ≤ i → (∀ e ∈ o, 0 ≤ e ∧ e < (n.Fibers.length : Int)) →
    ∃ l i', spec_l1Cur_route_L2 fu n y seen fk o i = some (l, i') ∧ l.length ≤ n.Fibers.length ∧ ∀ e ∈ l, 0 ≤ e ∧ e < (n.Fibers.length : Int) := by
  intro fk
  induction fk with
  | zero => intro i _ _ h; omega
  | succ fk ih =>
    intro i o hi hf ho hr
    rw [spec_l1Cur_route_L2]
    by_cases h : i < n.Fibers.length
    · have hlt : ((i : Int) < (n.Fibers.length : Int)) = True := by simp; omega
      have e1 : w64 ((seen.length : Int) - 1) = ((seen.length - 1 : Nat) : Int) := by rw [w64_in (by omega) (by omega)]; omega
      have hh : ∀ v, spec_l1Has fu seen v = some (seen.any fun x => x == v) := fun v => l1Has_eq seen v (by omega) (by omega)
      have ha : app o [(i : Int)] = some (o ++ [(i : Int)]) := app1 (by omega)
      simp only [hlt, decide_true, if_true, e1, idx_in (show seen.length - 1 < seen.length by omega), Option.bind_some, l2Other_eq fu n i _ h, hh, ha, w64_inc h (show (n.Fibers.length : Int) ≤ 9223372036854775807 by omega)]
      have two : ∀ b : Bool, ∃ l i', (if b = true then spec_l1Cur_route_L2 fu n y seen fk (o ++ [(i : Int)]) ((i + 1 : Nat) : Int) else spec_l1Cur_route_L2 fu n y seen fk o ((i + 1 : Nat) : Int)) = some (l, i') ∧ l.length ≤ n.Fibers.length ∧ ∀ e ∈ l, 0 ≤ e ∧ e < (n.Fibers.length : Int) := by
        intro b
        cases b
        · exact ih (i + 1) o h (by omega) (by omega) hr
        · refine ih (i + 1) _ h (by omega) (by simp; omega) fun e he => ?_
          rcases List.mem_append.1 he with he | he
          · exact hr e he
          · simp only [List.mem_singleton] at he
            omega
      split
      · exact two _
      · exact two false
    · obtain rfl : i = n.Fibers.length := by omega
      rw [if_neg (by simp)]
      exact ⟨_, _, rfl, ho, hr⟩
theorem route_loop1 {fu : Nat} (hfu : 2097153 ≤ fu) (n : Network) (y : Int × L1CurP) (hn : n.Fibers.length ≤ 1000) : ∀ (fk m : Nat) (seen l : List Int) (b : List By) (a : Int) (s : U64) (k B : Int), Cur ⟨b, a, s⟩ k → k ≤ B - 2 * (m : Int) → B ≤ 1000000000 → 1 ≤ seen.length → seen.length + m ≤ 1000 → l.length + m ≤ 4 → (∀ e ∈ l, 0 ≤ e ∧ e < (n.Fibers.length : Int)) → m < fk →
    ∃ s2 m2 l' b' a' s', spec_l1Cur_route_L1 fu n y fk seen (m : Int) l b a s = some (s2, m2, l', b', a', s') ∧ l'.length ≤ 4 ∧ (∀ e ∈ l', 0 ≤ e ∧ e < (n.Fibers.length : Int)) ∧ Cur ⟨b', a', s'⟩ B := by
  intro fk
  induction fk with
  | zero => intro m _ _ _ _ _ _ _ _ _ _ _ _ _ _ h; omega
  | succ fk ih =>
    intro m seen l b a s k B hc hk hB hs1 hs2 hl hr hf
    rw [spec_l1Cur_route_L1]
    by_cases h : 0 < m
    · have hlt : ((m : Int) > 0) = True := by simp; omega
      have e : w64 ((m : Int) - 1) = ((m - 1 : Nat) : Int) := w64_dec h (by omega)
      obtain ⟨z, zi, g1, z1, z2⟩ := route_loop2 hfu n y seen (by omega) hs1 (by omega) fu 0 [] (by omega) (by omega) (by simp) (by simp)
      rw [Int.ofNat_zero] at g1
      have e1 : w64 ((seen.length : Int) - 1) = ((seen.length - 1 : Nat) : Int) := by rw [w64_in (by omega) (by omega)]; omega
      simp only [hlt, decide_true, if_true, e, g1, Option.bind_some]
      by_cases hz : z.length = 0
      · have hz' : ((z.length : Int) == 0) = true := by simp [hz]
        simp only [hz', if_true]
        exact ⟨_, _, _, _, _, _, rfl, by omega, hr, hc.mono (by omega)⟩
      · have hz' : ((z.length : Int) == 0) = false := by simpa using hz
        obtain ⟨r1, c1, g2, p0, p1, k1⟩ := pick_ok (fu := fu) hc (by omega) (z.length : Int) (by omega)
        obtain ⟨x, hx, hxm⟩ := idx_some (l := z) (i := r1) p0 (p1 (by omega))
        obtain ⟨x0, x1⟩ := z2 x hxm
        have hxn : x = ((x.toNat : Nat) : Int) := by omega
        have ho : ∀ v, spec_l2Other fu n x v = some (oth (gd n.Fibers x.toNat f0) v) := fun v => by
          have := l2Other_eq fu n x.toNat v (by omega)
          rwa [← hxn] at this
        simp only [hz', Bool.false_eq_true, if_false, g2, Option.bind_some, hx, e1, idx_in (show seen.length - 1 < seen.length by omega), ho, app1 (show l.length ≤ 1000000 by omega), app1 (show seen.length ≤ 1000000 by omega)]
        refine ih (m - 1) _ _ _ _ _ (k + 2) B k1 (by omega) hB (by simp) (by simp; omega) (by simp; omega) (fun q hq => ?_) (by omega)
        rcases List.mem_append.1 hq with hq | hq
        · exact hr q hq
        · simp only [List.mem_singleton] at hq
          omega
    · obtain rfl : m = 0 := by omega
      rw [if_neg (by simp)]
      exact ⟨_, _, _, _, _, _, rfl, by omega, hr, hc.mono (by omega)⟩
theorem route_ok {fu : Nat} (hfu : 2097153 ≤ fu) {c : L1CurP} {k : Int} (hc : Cur c k) (hk : k ≤ 900000000) {n : Network} (hn : n.Fibers.length ≤ 1000) (hm : n.Nodes.length ≤ 1000) : ∃ r c', spec_l1Cur_route fu c n = some (r, c') ∧ r.Fibers.length ≤ 4 ∧ (∀ e ∈ r.Fibers, 0 ≤ e ∧ e < (n.Fibers.length : Int)) ∧ Cur c' (k + 20) := by
  unfold spec_l1Cur_route
  obtain ⟨r1, c1, g1, -, -, k1⟩ := pick_ok (fu := fu) hc (by omega) (n.Nodes.length : Int) (by omega)
  obtain ⟨r2, c2, g2, p0, p1, k2⟩ := pick_ok (fu := fu) k1 (by omega) 4 (by decide)
  have p2 := p1 (by decide)
  have e : w64 (1 + r2) = (((1 + r2).toNat : Nat) : Int) := by rw [w64_in (by omega) (by omega)]; omega
  obtain ⟨s3, m3, l3, b3, a3, t3, g3, h3, h4, k3⟩ := route_loop1 hfu n (r1, c1) hn fu (1 + r2).toNat [r1] [] c2.code c2.at_ c2.seed (k + 2 + 2) (k + 20) k2 (by omega) (by omega) (by simp) (by simp; omega) (by simp; omega) (by simp) (by omega)
  simp only [g1, g2, Option.bind_some, e, g3]
  exact ⟨_, _, rfl, h3, h4, k3⟩
theorem routed_ok {fu : Nat} (hfu : 2097153 ≤ fu) {c : L1CurP} {k : Int} (hc : Cur c k) (hk : k ≤ 900000000) {n : Network} (h1 : 1 ≤ n.Fibers.length) (hn : n.Fibers.length ≤ 1000) (hm : n.Nodes.length ≤ 1000) : ∃ r c', spec_l1Cur_routed fu c n = some (r, c') ∧ 1 ≤ r.Fibers.length ∧ r.Fibers.length ≤ 4 ∧ (∀ e ∈ r.Fibers, 0 ≤ e ∧ e < (n.Fibers.length : Int)) ∧ Cur c' (k + 20) := by
  unfold spec_l1Cur_routed
  obtain ⟨r, c', g1, h2, h3, k1⟩ := route_ok hfu hc hk hn hm
  simp only [g1, Option.bind_some]
  split
  · obtain ⟨e, he, -⟩ := idx_some (l := n.Fibers) (i := 0) (Int.le_refl _) (by omega)
    rw [he]
    exact ⟨_, _, rfl, by simp, by simp, by simp; omega, k1⟩
  · rename_i h
    have h0 : r.Fibers.length ≠ 0 := by simpa using h
    exact ⟨_, _, rfl, by omega, h2, h3, k1⟩
theorem anyRoute_ok {fu : Nat} (hfu : 2097153 ≤ fu) {c : L1CurP} {k : Int} (hc : Cur c k) (hk : k ≤ 900000000) {n : Network} (hn : n.Fibers.length ≤ 1000) (hm : n.Nodes.length ≤ 1000) : ∃ r c', spec_l1Cur_anyRoute fu c n = some (r, c') ∧ r.Fibers.length ≤ 5 ∧ Cur c' (k + 30) := by
  unfold spec_l1Cur_anyRoute
  obtain ⟨r, c1, g1, h1, -, k1⟩ := route_ok hfu hc hk hn hm
  obtain ⟨r2, c2, g2, -, -, k2⟩ := pick_ok (fu := fu) k1 (by omega) 16 (by decide)
  obtain ⟨r3, c3, g3, -, -, k3⟩ := pick_ok (fu := fu) k2 (by omega) 8 (by decide)
  simp only [g1, g2, g3, Option.bind_some, app1 (show r.Fibers.length ≤ 1000000 by omega)]
  split
  · exact ⟨_, _, rfl, by simp only; omega, k3.mono (by omega)⟩
  split
  · exact ⟨_, _, rfl, by simp; omega, k3.mono (by omega)⟩
  split
  · exact ⟨_, _, rfl, by simp, k2.mono (by omega)⟩
  split
  · split
    · rename_i h
      have h0 : (1 : Int) < r.Fibers.length := by simpa using h
      have e1 : w64 ((r.Fibers.length : Int) - 1) = ((r.Fibers.length - 1 : Nat) : Int) := by rw [w64_in (by omega) (by omega)]; omega
      simp only [e1, idx_in (show r.Fibers.length - 1 < r.Fibers.length by omega), Option.bind_some, app1 (show r.Fibers.length ≤ 1000000 by omega)]
      exact ⟨_, _, rfl, by simp; omega, k2.mono (by omega)⟩
    · exact ⟨_, _, rfl, by omega, k2.mono (by omega)⟩
  · exact ⟨_, _, rfl, by omega, k2.mono (by omega)⟩
/-! ### Blocks, networks that may be wrong -/
theorem block_ok {fu : Nat} {c : L1CurP} {k : Int} (hc : Cur c k) (hk : k ≤ 900000000) : ∃ r c', spec_l1Cur_block fu c = some (r, c') ∧ Cur c' (k + 10) := by
  unfold spec_l1Cur_block spec_l1Cur_one
  obtain ⟨r1, c1, g1, -, -, k1⟩ := pick_ok (fu := fu) hc (by omega) 12 (by decide)
  obtain ⟨r2, c2, g2, -, -, k2⟩ := pick_ok (fu := fu) k1 (by omega) 26 (by decide)
  obtain ⟨r3, c3, g3, -, -, k3⟩ := pick_ok (fu := fu) k2 (by omega) 27 (by decide)
  obtain ⟨r4, c4, g4, p0, p1, k4⟩ := pick_ok (fu := fu) k1 (by omega) 6 (by decide)
  have p2 := p1 (by decide)
  obtain ⟨r5, c5, g5, -, -, k5⟩ := pick_ok (fu := fu) k4 (by omega) (w64 ((w64 (24 - (w64 (1 + r4)))) + 1)) (by
    rw [w64_in (n := 1 + r4) (by omega) (by omega), w64_in (n := 24 - (1 + r4)) (by omega) (by omega), w64_in (by omega) (by omega)]; omega)
  simp only [g1, g2, g3, g4, g5, Option.bind_some]
  split
  · exact ⟨_, _, rfl, k3.mono (by omega)⟩
  · exact ⟨_, _, rfl, k5.mono (by omega)⟩
theorem of_ok {fu : Nat} {c : L1CurP} {k : Int} (hc : Cur c k) (hk : k ≤ 4611686018427387000) (l : List ByteArray) (h1 : 1 ≤ l.length) (hn : l.length ≤ 1099511627776) : ∃ r c', spec_l1Cur_of fu c l = some (r, c') ∧ r ∈ l ∧ Cur c' (k + 2) := by
  unfold spec_l1Cur_of
  obtain ⟨r, c', g1, g2, g3, g4⟩ := pick_ok (fu := fu) hc hk (l.length : Int) (by omega)
  obtain ⟨e, he, hm⟩ := idx_some (l := l) (i := r) g2 (g3 (by omega))
  simp only [g1, Option.bind_some, he]
  exact ⟨_, _, rfl, hm, g4⟩
theorem anyNet_loop {fu : Nat} : ∀ (fk : Nat) (l : List Fiber) (b : List By) (a : Int) (s : U64) (k B : Int), Cur ⟨b, a, s⟩ k → k ≤ B + 2 * (l.length : Int) → B ≤ 1000000000 → 1 ≤ l.length → l.length ≤ 15 → 15 - l.length < fk →
    ∃ l' b' a' s', spec_l1Cur_anyNetwork_L1 fu fk l b a s = some (l', b', a', s') ∧ l'.length ≤ 15 ∧ Cur ⟨b', a', s'⟩ (B + 50) := by
  intro fk
  induction fk with
  | zero => intro l _ _ _ _ _ _ _ _ _ _ h; omega
  | succ fk ih =>
    intro l b a s k B hc hk hB h1 h2 hf
    rw [spec_l1Cur_anyNetwork_L1]
    obtain ⟨r1, c1, g1, p0, p1, k1⟩ := pick_ok (fu := fu) hc (by omega) 2 (by decide)
    have p2 := p1 (by decide)
    have e : w64 (14 + r1) = 14 + r1 := w64_in (by omega) (by omega)
    have e1 : w64 ((l.length : Int) - 1) = ((l.length - 1 : Nat) : Int) := by rw [w64_in (by omega) (by omega)]; omega
    simp only [g1, Option.bind_some, e, e1, idx_in (show l.length - 1 < l.length by omega), app1 (show l.length ≤ 1000000 by omega)]
    split
    · rename_i h
      have h' : (l.length : Int) < 14 + r1 := by simpa using h
      exact ih _ _ _ _ (k + 2) B k1 (by simp; omega) hB (by simp) (by simp; omega) (by simp; omega)
    · exact ⟨_, _, _, _, rfl, h2, k1.mono (by omega)⟩
theorem anyNetwork_ok {fu : Nat} (hfu : 2097153 ≤ fu) {c : L1CurP} {k : Int} (hc : Cur c k) (hk : k ≤ 800000000) : ∃ r c', spec_l1Cur_anyNetwork fu c = some (r, c') ∧ NetD r ∧ Cur c' (k + 500) := by
  unfold spec_l1Cur_anyNetwork
  obtain ⟨n, c1, g1, h1, h2, h3, k1⟩ := network_ok hfu hc (by omega)
  simp only [g1, Option.bind_some]
  by_cases h : n.Fibers.length = 0
  · have h' : ((n.Fibers.length : Int) == 0) = true := by simp [h]
    simp only [h', if_true]
    exact ⟨_, _, rfl, h1, k1.mono (by omega)⟩
  have h' : ((n.Fibers.length : Int) == 0) = false := by simpa using h
  obtain ⟨r2, c2, g2, p0, p1, k2⟩ := pick_ok (fu := fu) k1 (by omega) (n.Fibers.length : Int) (by omega)
  have p2 := p1 (by omega)
  obtain ⟨e, he, -⟩ := idx_some (l := n.Fibers) (i := r2) p0 p2
  obtain ⟨r3, c3, g3, -, -, k3⟩ := pick_ok (fu := fu) k2 (by omega) 24 (by decide)
  obtain ⟨r4, c4, g4, m4, k4⟩ := of_ok (fu := fu) k3 (by omega) [(⟨#[98]⟩ : ByteArray), ByteArray.empty, (⟨#[65]⟩ : ByteArray), (⟨#[97, 98, 99, 100, 101, 102, 103, 104]⟩ : ByteArray), (⟨#[97, 98, 99, 100, 101, 102, 103, 104, 105]⟩ : ByteArray), (⟨#[120, 49]⟩ : ByteArray)] (by simp) (by simp)
  obtain ⟨r5, c5, g5, -, -, k5⟩ := pick_ok (fu := fu) k3 (by omega) 8 (by decide)
  obtain ⟨r6, c6, g6, -, -, k6⟩ := pick_ok (fu := fu) k3 (by omega) 10 (by decide)
  obtain ⟨r7, c7, g7, -, k7⟩ := among_ok (fu := fu) k3 (by omega) [0, 1, 5000, 5001] (by decide) (by decide)
  obtain ⟨r8, c8, g8, -, k8⟩ := among_ok (fu := fu) k3 (by omega) [(-1), 9, 10] (by decide) (by decide)
  obtain ⟨e0, he0, -⟩ := idx_some (l := n.Fibers) (i := 0) (Int.le_refl _) (by omega)
  obtain ⟨v0, hv0, -⟩ := idx_some (l := n.Nodes) (i := 0) (Int.le_refl _) (by have := h1.n1; omega)
  obtain ⟨l9, b9, a9, s9, g9, h9, k9⟩ := anyNet_loop (fu := fu) fu n.Fibers c3.code c3.at_ c3.seed (k + 200 + 2 + 2) (k + 204) k3 (by omega) (by omega) (by omega) (by omega) (by omega)
  have hfs : ∀ f : Fiber, NetD ⟨n.Nodes, n.Fibers.set r2.toNat f⟩ := fun f => ⟨h1.n1, h1.n2, h1.ns, by simp only [List.length_set]; exact h1.f2⟩
  have ha := app1 (x := e0) (show n.Fibers.length ≤ 1000000 by omega)
  obtain ⟨e9, he9, -⟩ := idx_some (l := n.Fibers ++ [e0]) (i := r2) p0 (by simp; omega)
  have hn4 : app n.Nodes [(⟨#[112]⟩ : ByteArray), (⟨#[113]⟩ : ByteArray), (⟨#[114]⟩ : ByteArray), (⟨#[115]⟩ : ByteArray)] = some (n.Nodes ++ [(⟨#[112]⟩ : ByteArray), (⟨#[113]⟩ : ByteArray), (⟨#[114]⟩ : ByteArray), (⟨#[115]⟩ : ByteArray)]) := app_ok (by simp; omega)
  simp only [h', Bool.false_eq_true, if_false, g2, g3, g4, g5, g6, g7, g8, g9, he, he0, hv0, ha, he9, hn4, Option.bind_some]
  split
  · refine ⟨_, _, rfl, ⟨by simp only [List.length_set]; exact h1.n1, by simp only [List.length_set]; exact h1.n2, fun z hz => ?_, by simp only [List.length_set]; exact h1.f2⟩, k4.mono (by omega)⟩
    rcases List.mem_or_eq_of_mem_set hz with hz | rfl
    · exact h1.ns z hz
    · simp only [List.mem_cons, List.not_mem_nil, or_false] at m4
      rcases m4 with rfl | rfl | rfl | rfl | rfl | rfl <;> decide
  split
  · exact ⟨_, _, rfl, hfs _, k5.mono (by omega)⟩
  split
  · exact ⟨_, _, rfl, hfs _, k6.mono (by omega)⟩
  split
  · exact ⟨_, _, rfl, hfs _, k7.mono (by omega)⟩
  split
  · exact ⟨_, _, rfl, hfs _, k8.mono (by omega)⟩
  split
  · exact ⟨_, _, rfl, ⟨h1.n1, h1.n2, h1.ns, by simp; omega⟩, k3.mono (by omega)⟩
  split
  · exact ⟨_, _, rfl, ⟨h1.n1, h1.n2, h1.ns, by simp only; omega⟩, k9.mono (by omega)⟩
  split
  · refine ⟨_, _, rfl, ⟨by simp, by simp; omega, fun z hz => ?_, by simp only [List.length_set]; exact h1.f2⟩, k3.mono (by omega)⟩
    rcases List.mem_append.1 hz with hz | hz
    · exact h1.ns z hz
    · simp only [List.mem_cons, List.not_mem_nil, or_false] at hz
      rcases hz with rfl | rfl | rfl | rfl <;> decide
  · exact ⟨_, _, rfl, hfs _, k3.mono (by omega)⟩
end AT


namespace AT
/-- What is known of actions by their size alone. -/
def ActsB (l : List Action) : Prop := l.length ≤ 2097152 ∧ ∀ a ∈ l, a.Light.Route.Fibers.length ≤ 2097152
end AT


namespace AT
def acts : List Action → Plan → Plan × Nat
  | [], p => (p, 0)
  | a :: l, p => if (act p a).2 = true then ((acts l (act p a).1).1, (acts l (act p a).1).2 + 1) else (p, 0)
end AT


namespace AT
structure PlanD (p : Plan) : Prop where
  net : NetD p.Network
  ls : p.Lights.length ≤ 20
  rs : ∀ x ∈ p.Lights, x.Route.Fibers.length ≤ 20
theorem PlanD.B {p : Plan} (h : PlanD p) : PlanB p := ⟨h.net.B, by have := h.ls; omega, fun x hx => by have := h.rs x hx; omega⟩
theorem plan_loop {fu : Nat} (hfu : 2097153 ≤ fu) (ns : List ByteArray) (fs : List Fiber) (hn : NetD ⟨ns, fs⟩) (h1 : 1 ≤ fs.length) : ∀ (fk n : Nat) (L : List Light) (b : List By) (a : Int) (s : U64) (k B : Int), Cur ⟨b, a, s⟩ k → k ≤ B - 50 * (n : Int) → B ≤ 800000000 → L.length + n ≤ 8 → (∀ y ∈ L, blkOk y.Block = true) → (∀ y ∈ L, y.Route.Fibers.length ≤ 4) → n < fk →
    ∃ n' L' b' a' s', spec_l1Cur_plan_L1 fu fk (n : Int) ns fs L b a s = some (n', ns, fs, L', b', a', s') ∧ L'.length ≤ 8 ∧ (∀ y ∈ L', y.Route.Fibers.length ≤ 4) ∧ Cur ⟨b', a', s'⟩ B := by
  intro fk
  induction fk with
  | zero => intro n _ _ _ _ _ _ _ _ _ _ _ _ h; omega
  | succ fk ih =>
    intro n L b a s k B hc hk hB hl hb hr hf
    rw [spec_l1Cur_plan_L1]
    have f2 := hn.f2
    have n2 := hn.n2
    simp only at f2 n2
    by_cases h : 0 < n
    · have hlt : ((n : Int) > 0) = True := eq_true (by omega)
      have e : w64 ((n : Int) - 1) = ((n - 1 : Nat) : Int) := w64_dec h (by omega)
      obtain ⟨r3, c3, g3, q1, q2, q3, k3⟩ := routed_ok hfu hc (by omega) (n := ⟨ns, fs⟩) h1 (by simp only; omega) (by simp only; omega)
      obtain ⟨r4, c4, g4, p0, p1, k4⟩ := pick_ok (fu := fu) k3 (by omega) 5 (by decide)
      have p2 := p1 (by decide)
      have e4 : w64 (1 + r4) = 1 + r4 := w64_in (by omega) (by omega)
      have hal := l9Along_eq hfu (⟨⟨ns, fs⟩, L⟩ : Plan) r3 (by simp only; omega) hb (fun x hx => by have := hr x hx; omega) (by omega)
      have hfi := fun m => l8Fits_eq hfu m (1 + r4) (by omega) (by omega)
      simp only [hlt, decide_true, if_true, e, g3, g4, Option.bind_some, hal, e4, hfi]
      obtain ⟨F, hF⟩ : ∃ F, F = fits (along L r3.Fibers) (1 + r4) := ⟨_, rfl⟩
      simp only [← hF]
      have hm : ∀ t ∈ F, blkOk ⟨t, 1 + r4⟩ = true := fun t ht => by
        rw [hF, fits_mem (by omega) (by omega)] at ht
        unfold blkOk
        simp only [Bool.and_eq_true, decide_eq_true_eq]
        omega
      by_cases hz : F.length = 0
      · have hz' : ((F.length : Int) > 0) = False := eq_false (by omega)
        simp only [hz', decide_false, Bool.false_eq_true, if_false]
        exact ih (n - 1) L _ _ _ (k + 20 + 2) B k4 (by omega) hB (by omega) hb hr (by omega)
      · have hz' : ((F.length : Int) > 0) = True := eq_true (by omega)
        obtain ⟨e0, he0, hm0⟩ := idx_some (l := F) (i := 0) (Int.le_refl _) (by omega)
        obtain ⟨r5, c5, g5, -, -, k5⟩ := pick_ok (fu := fu) k4 (by omega) 2 (by decide)
        have hFl : F.length ≤ 25 := by rw [hF]; exact fits_len _ _
        obtain ⟨r6, c6, g6, p6, p7, k6⟩ := pick_ok (fu := fu) k5 (by omega) (F.length : Int) (by omega)
        obtain ⟨e1, he1, hm1⟩ := idx_some (l := F) (i := r6) p6 (p7 (by omega))
        obtain ⟨r7, c7, g7, -, -, k7⟩ := pick_ok (fu := fu) k6 (by omega) 3 (by decide)
        obtain ⟨r8, c8, g8, -, -, k8⟩ := pick_ok (fu := fu) k5 (by omega) 3 (by decide)
        have hput : ∀ x : Light, x.Route = r3 → spec_l9Put fu (⟨⟨ns, fs⟩, L⟩ : Plan) x = some (addP ⟨⟨ns, fs⟩, L⟩ x) := fun x hx => l9Put_eq hfu _ x ⟨hn.B, by simp only; omega, fun y hy => by have := hr y hy; omega⟩ (by rw [hx]; omega)
        simp only [hz', decide_true, if_true, he0, spec_l1Cur_one, g5, g6, he1, g7, g8, Option.bind_some]
        have step : ∀ (x : Light) (c : L1CurP) (k' : Int), x.Route = r3 → blkOk x.Block = true → Cur c k' → k' ≤ k + 30 → ∃ n' L' b' a' s', ((spec_l9Put fu (⟨⟨ns, fs⟩, L⟩ : Plan) x).bind fun y => spec_l1Cur_plan_L1 fu fk ((n - 1 : Nat) : Int) y.Network.Nodes y.Network.Fibers y.Lights c.code c.at_ c.seed) = some (n', ns, fs, L', b', a', s') ∧ L'.length ≤ 8 ∧ (∀ y ∈ L', y.Route.Fibers.length ≤ 4) ∧ Cur ⟨b', a', s'⟩ B := by
          intro x c k' hx hb' hc' hk'
          rw [hput x hx, Option.bind_some]
          refine ih (n - 1) (putL L x) _ _ _ k' B hc' (by omega) hB (by rw [putL_len]; omega) (fun y hy => ?_) (fun y hy => ?_) (by omega)
          · rcases putL_mem.1 hy with rfl | hy
            · exact hb'
            · exact hb y hy
          · rcases putL_mem.1 hy with rfl | hy
            · rw [hx]; omega
            · exact hr y hy
        split
        · exact step _ c7 _ rfl (hm _ hm1) k7 (by omega)
        · exact step _ c8 _ rfl (hm _ hm0) k8 (by omega)
    · obtain rfl : n = 0 := by omega
      rw [if_neg (by simp)]
      exact ⟨_, _, _, _, _, rfl, by omega, hr, hc.mono (by omega)⟩
theorem plan_ok {fu : Nat} (hfu : 2097153 ≤ fu) {c : L1CurP} {k : Int} (hc : Cur c k) (hk : k ≤ 700000000) : ∃ r c', spec_l1Cur_plan fu c = some (r, c') ∧ PlanD r ∧ r.Lights.length ≤ 8 ∧ 1 ≤ r.Network.Fibers.length ∧ (∀ x ∈ r.Lights, x.Route.Fibers.length ≤ 4) ∧ Cur c' (k + 1000) := by
  unfold spec_l1Cur_plan
  obtain ⟨n, c1, g1, h1, h2, k1⟩ := linked_ok hfu hc (by omega)
  obtain ⟨r2, c2, g2, p0, p1, k2⟩ := pick_ok (fu := fu) k1 (by omega) 9 (by decide)
  have p2 := p1 (by decide)
  obtain ⟨n', L', b', a', s', g3, h3, h4, k3⟩ := plan_loop hfu n.Nodes n.Fibers h1 h2 fu r2.toNat [] c2.code c2.at_ c2.seed (k + 200 + 2) (k + 1000) k2 (by omega) (by omega) (by simp; omega) (by simp) (by simp) (by omega)
  rw [Int.toNat_of_nonneg p0] at g3
  simp only [g1, g2, g3, Option.bind_some]
  exact ⟨_, _, rfl, ⟨h1, by simp only; omega, fun x hx => by have := h4 x hx; omega⟩, h3, h2, h4, k3⟩
theorem anyPlan_loop {fu : Nat} (y : Plan × L1CurP) (h1 : 1 ≤ y.1.Network.Fibers.length) : ∀ (fk n : Nat) (L : List Light) (b : List By) (a : Int) (s : U64) (k B : Int), Cur ⟨b, a, s⟩ k → k ≤ B + 2 * (n : Int) → B ≤ 800000000 → n ≤ 14 → L.length ≤ 13 → (∀ y ∈ L, y.Route.Fibers.length ≤ 20) → 15 - n < fk →
    ∃ n' L' b' a' s', spec_l1Cur_anyPlan_L1 fu y fk (n : Int) L b a s = some (n', L', b', a', s') ∧ L'.length ≤ 13 ∧ (∀ y ∈ L', y.Route.Fibers.length ≤ 20) ∧ Cur ⟨b', a', s'⟩ (B + 60) := by
  intro fk
  induction fk with
  | zero => intro n _ _ _ _ _ _ _ _ _ _ _ _ h; omega
  | succ fk ih =>
    intro n L b a s k B hc hk hB hn hl hr hf
    rw [spec_l1Cur_anyPlan_L1]
    obtain ⟨r1, c1, g1, p0, p1, k1⟩ := pick_ok (fu := fu) hc (by omega) 2 (by decide)
    have p2 := p1 (by decide)
    have e : w64 (12 + r1) = 12 + r1 := w64_in (by omega) (by omega)
    have e1 : w64 ((n : Int) + 1) = ((n + 1 : Nat) : Int) := by rw [w64_in (by omega) (by omega)]; omega
    obtain ⟨e0, he0, -⟩ := idx_some (l := y.1.Network.Fibers) (i := 0) (Int.le_refl _) (by omega)
    have ha : ∀ x : Light, app L [x] = some (L ++ [x]) := fun x => app1 (by omega)
    simp only [g1, Option.bind_some, e, e1, he0, ha]
    split
    · rename_i h
      have h' : (L.length : Int) < 12 + r1 := by simpa using h
      split
      · rename_i h3
        have h3' : (n : Int) < 14 := by simpa using h3
        refine ih (n + 1) _ _ _ _ (k + 2) B k1 (by omega) hB (by omega) (by simp; omega) (fun x hx => ?_) (by omega)
        rcases List.mem_append.1 hx with hx | hx
        · exact hr x hx
        · simp only [List.mem_singleton] at hx; subst hx; simp
      · exact ⟨_, _, _, _, _, rfl, hl, hr, k1.mono (by omega)⟩
    · exact ⟨_, _, _, _, _, rfl, hl, hr, k1.mono (by omega)⟩
theorem anyPlan_ok {fu : Nat} (hfu : 2097153 ≤ fu) {c : L1CurP} {k : Int} (hc : Cur c k) (hk : k ≤ 600000000) : ∃ r c', spec_l1Cur_anyPlan fu c = some (r, c') ∧ PlanD r ∧ Cur c' (k + 3000) := by
  unfold spec_l1Cur_anyPlan
  obtain ⟨p, c1, g1, h1, h2, h3, h4, k1⟩ := plan_ok hfu hc (by omega)
  simp only [g1, Option.bind_some]
  by_cases h : p.Lights.length = 0
  · have h' : ((p.Lights.length : Int) == 0) = true := by simp [h]
    simp only [h', if_true]
    exact ⟨_, _, rfl, h1, k1.mono (by omega)⟩
  have h' : ((p.Lights.length : Int) == 0) = false := by simpa using h
  obtain ⟨r2, c2, g2, p0, p1, k2⟩ := pick_ok (fu := fu) k1 (by omega) (p.Lights.length : Int) (by omega)
  have p2 := p1 (by omega)
  obtain ⟨e, he, hem⟩ := idx_some (l := p.Lights) (i := r2) p0 p2
  obtain ⟨r3, c3, g3, -, -, k3⟩ := pick_ok (fu := fu) k2 (by omega) 24 (by decide)
  obtain ⟨r4, c4, g4, -, k4⟩ := among_ok (fu := fu) k3 (by omega) [0, 999, 1000, 1, 4] (by decide) (by decide)
  obtain ⟨r5, c5, g5, k5⟩ := block_ok (fu := fu) k3 (by omega)
  obtain ⟨r6, c6, g6, h6, k6⟩ := anyRoute_ok hfu k3 (by omega) (n := p.Network) (by have := h1.net.f2; omega) (by have := h1.net.n2; omega)
  obtain ⟨r7, c7, g7, h7, k7⟩ := anyNetwork_ok hfu k3 (by omega)
  obtain ⟨n8, L8, b8, a8, s8, g8, l8, m8, k8⟩ := anyPlan_loop (fu := fu) (p, c1) h3 fu 0 p.Lights c3.code c3.at_ c3.seed (k + 1000 + 2 + 2) (k + 1010) k3 (by omega) (by omega) (by omega) (by omega) (fun x hx => by have := h4 x hx; omega) (by omega)
  rw [Int.ofNat_zero] at g8
  have hr := h4 e hem
  have hset : ∀ (x : Light), x.Route.Fibers.length ≤ 5 → PlanD ⟨p.Network, p.Lights.set r2.toNat x⟩ := fun x hx => ⟨h1.net, by simp only [List.length_set]; omega, fun y hy => by
    rcases List.mem_or_eq_of_mem_set hy with hy | rfl
    · have := h4 y hy; omega
    · omega⟩
  have ha : app p.Lights [e] = some (p.Lights ++ [e]) := app1 (by omega)
  obtain ⟨e9, he9, -⟩ := idx_some (l := p.Lights ++ [e]) (i := r2) p0 (by simp; omega)
  simp only [h', Bool.false_eq_true, if_false, g2, g3, g4, g5, g6, g7, g8, he, ha, he9, Option.bind_some]
  split
  · exact ⟨_, _, rfl, hset _ (by simp only; omega), k4.mono (by omega)⟩
  split
  · exact ⟨_, _, rfl, hset _ (by simp only; omega), k5.mono (by omega)⟩
  split
  · exact ⟨_, _, rfl, hset _ (by simp only; omega), k6.mono (by omega)⟩
  split
  · refine ⟨_, _, rfl, ⟨h1.net, by simp; omega, fun y hy => ?_⟩, k3.mono (by omega)⟩
    rcases List.mem_or_eq_of_mem_set hy with hy | rfl
    · rcases List.mem_append.1 hy with hy | hy
      · have := h4 y hy; omega
      · simp only [List.mem_singleton] at hy; subst hy; omega
    · omega
  split
  · exact ⟨_, _, rfl, ⟨h7, by simp only [List.length_set]; omega, (hset e (by omega)).rs⟩, k7.mono (by omega)⟩
  split
  · exact ⟨_, _, rfl, ⟨h1.net, by simp only; omega, m8⟩, k8.mono (by omega)⟩
  · exact ⟨_, _, rfl, hset _ (by omega), k3.mono (by omega)⟩
theorem light_ok {fu : Nat} (hfu : 2097153 ≤ fu) {c : L1CurP} {k : Int} (hc : Cur c k) (hk : k ≤ 800000000) {p : Plan} (hn : p.Network.Fibers.length ≤ 1000) (hm : p.Network.Nodes.length ≤ 1000) : ∃ r c', spec_l1Cur_light fu c p = some (r, c') ∧ r.Route.Fibers.length ≤ 5 ∧ Cur c' (k + 50) := by
  unfold spec_l1Cur_light spec_l1Cur_one
  obtain ⟨r1, c1, g1, -, k1⟩ := among_ok (fu := fu) hc (by omega) [30, 31, 1, 2, 4, 5, 999] (by decide) (by decide)
  obtain ⟨r2, c2, g2, h2, k2⟩ := anyRoute_ok hfu k1 (by omega) hn hm
  obtain ⟨r3, c3, g3, k3⟩ := block_ok (fu := fu) k2 (by omega)
  obtain ⟨r4, c4, g4, -, -, k4⟩ := pick_ok (fu := fu) k3 (by omega) 24 (by decide)
  obtain ⟨r5, c5, g5, -, k5⟩ := among_ok (fu := fu) k4 (by omega) [0, 1000] (by decide) (by decide)
  simp only [g1, g2, g3, g4, g5, Option.bind_some]
  split
  · exact ⟨_, _, rfl, h2, k5.mono (by omega)⟩
  · exact ⟨_, _, rfl, h2, k4.mono (by omega)⟩
theorem drawLight {fu : Nat} (hfu : 2097153 ≤ fu) {x : List By} (hc : Cur ⟨x, 0, ⟨0⟩⟩ 0) : ∃ p y, spec_DrawCollidingLights fu x = some (p, y) ∧ PlanD p ∧ y.Route.Fibers.length ≤ 5 := by
  unfold spec_DrawCollidingLights
  obtain ⟨p, c1, g1, h1, k1⟩ := anyPlan_ok hfu hc (by omega)
  obtain ⟨y, c2, g2, h2, k2⟩ := light_ok hfu k1 (by omega) (p := p) (by have := h1.net.f2; omega) (by have := h1.net.n2; omega)
  simp only [g1, g2, Option.bind_some]
  exact ⟨_, _, rfl, h1, h2⟩
end AT


namespace AT
theorem vInts_self {fu : Nat} (hfu : 2097153 ≤ fu) (l : List Int) (h : l.length ≤ 2097152) : laws_vInts fu l l = some true := by
  unfold laws_vInts
  have h1 : ((l.length : Int) != (l.length : Int)) = false := by simp
  rw [h1, if_neg Bool.false_ne_true, eq_all0 l (laws_vInts_L1 fu l l) h (fun fk i => by rw [laws_vInts_L1]) fu (by omega)]
  rfl
theorem vLights_self {fu : Nat} (hfu : 2097153 ≤ fu) (x : Light) (h : x.Route.Fibers.length ≤ 2097152) : laws_vLights fu x x = some true := by
  unfold laws_vLights laws_vRoutes
  rw [vInts_self hfu _ h]
  simp
theorem vNetworks_self {fu : Nat} (hfu : 2097153 ≤ fu) (n : Network) (h : NetB n) : laws_vNetworks fu n n = some true := by
  unfold laws_vNetworks
  have h1 : ((n.Nodes.length : Int) != (n.Nodes.length : Int)) = false := by simp
  have h2 : ((n.Fibers.length : Int) != (n.Fibers.length : Int)) = false := by simp
  have e1 : laws_vNetworks_L1 fu n n fu 0 = some (.next (n.Nodes.length : Int)) := by
    rw [scan_all (l := n.Nodes) (G := laws_vNetworks_L1 fu n n) (fun _ => false) (fun _ => false) (by have := h.1.1; omega)
      (fun fk i hi => by
        have h' : (i : Int) < (n.Nodes.length : Int) := by omega
        rw [laws_vNetworks_L1]
        simp only [h', decide_true, if_true, idx_in hi, Option.bind_some, beq_self_eq_true, Bool.not_true])
      (fun fk => by rw [laws_vNetworks_L1, if_neg (by simp)]) fu (by have := h.1.1; omega)]
    simp
  have e2 : laws_vNetworks_L2 fu n n fu 0 = some (.next (n.Fibers.length : Int)) := by
    rw [scan_all (l := n.Fibers) (G := laws_vNetworks_L2 fu n n) (fun _ => false) (fun _ => false) (by have := h.2; omega)
      (fun fk i hi => by
        have h' : (i : Int) < (n.Fibers.length : Int) := by omega
        rw [laws_vNetworks_L2]
        simp only [h', decide_true, if_true, idx_in hi, Option.bind_some, beq_self_eq_true, Bool.not_true])
      (fun fk => by rw [laws_vNetworks_L2, if_neg (by simp)]) fu (by have := h.2; omega)]
    simp
  rw [h1, if_neg Bool.false_ne_true, h2, Option.bind_some, if_neg Bool.false_ne_true, e1, e2]
  rfl
theorem vPlans_self {fu : Nat} (hfu : 2097153 ≤ fu) (p : Plan) (h : PlanB p) : laws_vPlans fu p p = some true := by
  unfold laws_vPlans
  have h1 : ((p.Lights.length : Int) != (p.Lights.length : Int)) = false := by simp
  rw [vNetworks_self hfu _ h.1, h1, eq_all1 p.Lights (laws_vPlans_L1 fu p p) (laws_vLights fu) h.2.1 (fun e he => vLights_self hfu e (h.2.2 e he)) (fun fk i => by rw [laws_vPlans_L1]) fu (by have := h.2.1; omega)]
  rfl
end AT


namespace AT
def ChangeB (c : Change) : Prop := PlanB c.Plan ∧ ActsB c.Actions ∧ ActsB c.Undo
end AT


namespace AT
theorem gd_putL (L : List Light) (x : Light) : gd (putL L x) (insAt L x.Id) l0 = x := by
  have h := insAt_le L x.Id
  unfold putL gd
  rw [List.getElem?_append_right (by rw [List.length_take]; omega), List.length_take, Nat.min_eq_left h, Nat.sub_self]
  rfl
theorem putL_erase (L : List Light) (x : Light) : (putL L x).eraseIdx (insAt L x.Id) = L := by
  have h := insAt_le L x.Id
  unfold putL
  rw [List.eraseIdx_append_of_length_le (by rw [List.length_take]; omega), List.length_take, Nat.min_eq_left h, Nat.sub_self, List.eraseIdx_cons_zero, List.take_append_drop]
theorem has_put (p : Plan) (x : Light) : has_ (addP p x) x.Id = true := by
  unfold has_ addP
  rw [List.any_eq_true]
  exact ⟨x, putL_mem.2 (.inl rfl), by simp⟩
structure ChF (c : Change) : Prop where
  ok : planOk c.Plan = true
  B : ChangeB c
  len : c.Actions.length + c.Undo.length ≤ 8
  back : c.Back = true → c.Actions = []
  undo : (acts c.Undo c.Plan).2 = c.Undo.length
end AT


namespace AT
theorem and_cat {a m b n : Nat} (ha : a < 256) (hm : m < 256) : (a + 256 * b) &&& (m + 256 * n) = (a &&& m) + 256 * (b &&& n) := by
  apply Nat.eq_of_testBit_eq
  intro j
  have e : ∀ x y : Nat, x < 256 → (x + 256 * y).testBit j = if j < 8 then x.testBit j else y.testBit (j - 8) := fun x y hx => by
    rw [Nat.add_comm, show (256 : Nat) = 2 ^ 8 from rfl, Nat.testBit_two_pow_mul_add _ (by simpa using hx)]
  have hand : a &&& m < 256 := Nat.and_lt_two_pow (n := 8) _ hm
  rw [Nat.testBit_and, e a b ha, e m n hm, e _ _ hand]
  split <;> rw [Nat.testBit_and]
def pop8 (b : Nat) : Nat := b % 2 + b / 2 % 2 + b / 4 % 2 + b / 8 % 2 + b / 16 % 2 + b / 32 % 2 + b / 64 % 2 + b / 128 % 2
def s1 (b : Nat) : Nat := (b / 2 &&& 0x55) + (b &&& 0x55)
def s2 (b : Nat) : Nat := (b / 4 &&& 0x33) + (b &&& 0x33)
def s3 (b : Nat) : Nat := (b / 16 + b) &&& 0x0f
set_option maxRecDepth 100000 in
theorem byte_pop : ∀ b : Fin 256, s1 b < 256 ∧ (s2 (s1 b) < 69 ∧ s2 (s1 b) % 16 < 5) ∧ s3 (s2 (s1 b)) = pop8 b := by decide +kernel
set_option maxRecDepth 100000 in
theorem b1 : ∀ (b : Fin 256) (r : Fin 2), ((b : Nat) / 2 + 128 * r) &&& 0x55 = (b : Nat) / 2 &&& 0x55 := by decide +kernel
set_option maxRecDepth 100000 in
theorem b2 : ∀ (b : Fin 256) (r : Fin 4), ((b : Nat) / 4 + 64 * r) &&& 0x33 = (b : Nat) / 4 &&& 0x33 := by decide +kernel
set_option maxRecDepth 100000 in
theorem b3 : ∀ (b : Fin 69) (r : Fin 5), ((b : Nat) / 16 + b + 16 * r) &&& 0x0f = ((b : Nat) / 16 + b) &&& 0x0f := by decide +kernel
theorem cat3 {a b c : Nat} {x y z k : Nat} (ha : a < 256) (hb : b < 256) (hc : c < 256) (hx : x < 256) (hy : y < 256) (hz : z < 256) : (a + 256 * (b + 256 * c)) &&& (x + 256 * (y + 256 * (z + 256 * k))) = (a &&& x) + 256 * ((b &&& y) + 256 * (c &&& z)) := by
  have h := and_cat (a := c) (m := z) (b := 0) (n := k) hc hz
  rw [Nat.zero_and, Nat.mul_zero, Nat.add_zero, Nat.add_zero] at h
  rw [and_cat ha hx, and_cat hb hy, h]
theorem pop_core {x : Nat} (hx : x < 16777216) :
    let y1 := (x / 2 &&& 0x5555555555555555) + (x &&& 0x5555555555555555)
    let y2 := (y1 / 4 &&& 0x3333333333333333) + (y1 &&& 0x3333333333333333)
    let y3 := (y2 / 16 + y2) &&& 0x0f0f0f0f0f0f0f0f
    y1 < 16777216 ∧ y2 < 16777216 ∧ y3 = pop8 (x % 256) + 256 * (pop8 (x / 256 % 256) + 256 * pop8 (x / 65536)) := by
  obtain ⟨a, ha⟩ : ∃ a, a = x % 256 := ⟨_, rfl⟩
  obtain ⟨b, hb⟩ : ∃ b, b = x / 256 % 256 := ⟨_, rfl⟩
  obtain ⟨c, hc⟩ : ∃ c, c = x / 65536 := ⟨_, rfl⟩
  have a0 : a < 256 := by omega
  have b0 : b < 256 := by omega
  have c0 : c < 256 := by omega
  have e : x = a + 256 * (b + 256 * c) := by omega
  have e2 : x / 2 = (a / 2 + 128 * (b % 2)) + 256 * ((b / 2 + 128 * (c % 2)) + 256 * (c / 2)) := by omega
  have pa := byte_pop ⟨a, a0⟩
  have pb := byte_pop ⟨b, b0⟩
  have pc := byte_pop ⟨c, c0⟩
  simp only at pa pb pc
  have m1 : (0x5555555555555555 : Nat) = 0x55 + 256 * (0x55 + 256 * (0x55 + 256 * 0x5555555555)) := by decide
  have m2 : (0x3333333333333333 : Nat) = 0x33 + 256 * (0x33 + 256 * (0x33 + 256 * 0x3333333333)) := by decide
  have m3 : (0x0f0f0f0f0f0f0f0f : Nat) = 0x0f + 256 * (0x0f + 256 * (0x0f + 256 * 0x0f0f0f0f0f)) := by decide
  have y1 : (x / 2 &&& 0x5555555555555555) + (x &&& 0x5555555555555555) = s1 a + 256 * (s1 b + 256 * s1 c) := by
    rw [m1, e2, cat3 (by omega) (by omega) (by omega) (by omega) (by omega) (by omega), e, cat3 a0 b0 c0 (by omega) (by omega) (by omega)]
    have q1 := b1 ⟨a, a0⟩ ⟨b % 2, by omega⟩
    have q2 := b1 ⟨b, b0⟩ ⟨c % 2, by omega⟩
    simp only at q1 q2
    rw [q1, q2]
    unfold s1
    omega
  obtain ⟨u, hu⟩ : ∃ u, u = s1 a := ⟨_, rfl⟩
  obtain ⟨v, hv⟩ : ∃ v, v = s1 b := ⟨_, rfl⟩
  obtain ⟨w, hw⟩ : ∃ w, w = s1 c := ⟨_, rfl⟩
  rw [← hu, ← hv, ← hw] at y1
  rw [← hu] at pa
  rw [← hv] at pb
  rw [← hw] at pc
  obtain ⟨u0, pa, ra⟩ := pa
  obtain ⟨v0, pb, rb⟩ := pb
  obtain ⟨w0, pc, rc⟩ := pc
  simp only [y1]
  have e4 : (u + 256 * (v + 256 * w)) / 4 = (u / 4 + 64 * (v % 4)) + 256 * ((v / 4 + 64 * (w % 4)) + 256 * (w / 4)) := by omega
  have y2 : ((u + 256 * (v + 256 * w)) / 4 &&& 0x3333333333333333) + ((u + 256 * (v + 256 * w)) &&& 0x3333333333333333) = s2 u + 256 * (s2 v + 256 * s2 w) := by
    rw [m2, e4, cat3 (by omega) (by omega) (by omega) (by omega) (by omega) (by omega), cat3 u0 v0 w0 (by omega) (by omega) (by omega)]
    have q1 := b2 ⟨u, u0⟩ ⟨v % 4, by omega⟩
    have q2 := b2 ⟨v, v0⟩ ⟨w % 4, by omega⟩
    simp only at q1 q2
    rw [q1, q2]
    unfold s2
    omega
  obtain ⟨f, hf⟩ : ∃ f, f = s2 u := ⟨_, rfl⟩
  obtain ⟨g, hg⟩ : ∃ g, g = s2 v := ⟨_, rfl⟩
  obtain ⟨h, hh⟩ : ∃ h, h = s2 w := ⟨_, rfl⟩
  rw [← hf, ← hg, ← hh] at y2
  rw [← hf] at pa ra
  rw [← hg] at pb rb
  rw [← hh] at pc rc
  simp only [y2]
  refine ⟨by omega, by omega, ?_⟩
  have e6 : (f + 256 * (g + 256 * h)) / 16 + (f + 256 * (g + 256 * h)) = (f / 16 + f + 16 * (g % 16)) + 256 * ((g / 16 + g + 16 * (h % 16)) + 256 * (h / 16 + h)) := by omega
  have q1 := b3 ⟨f, by omega⟩ ⟨g % 16, by omega⟩
  have q2 := b3 ⟨g, by omega⟩ ⟨h % 16, by omega⟩
  simp only at q1 q2
  rw [← ha, ← hb, ← hc, ← ra, ← rb, ← rc, m3, e6, cat3 (by omega) (by omega) (by omega) (by omega) (by omega) (by omega), q1, q2]
  rfl
theorem pop8_le (b : Nat) : pop8 b ≤ 8 := by unfold pop8; omega
def pop24 (x : Nat) : Nat := pop8 (x % 256) + (pop8 (x / 256 % 256) + pop8 (x / 65536))
theorem pb0 (x : Nat) : x % 256 % 2 = x / 1 % 2 := by omega
theorem pb1 (x : Nat) : x % 256 / 2 % 2 = x / 2 % 2 := by omega
theorem pb2 (x : Nat) : x % 256 / 4 % 2 = x / 4 % 2 := by omega
theorem pb3 (x : Nat) : x % 256 / 8 % 2 = x / 8 % 2 := by omega
theorem pb4 (x : Nat) : x % 256 / 16 % 2 = x / 16 % 2 := by omega
theorem pb5 (x : Nat) : x % 256 / 32 % 2 = x / 32 % 2 := by omega
theorem pb6 (x : Nat) : x % 256 / 64 % 2 = x / 64 % 2 := by omega
theorem pb7 (x : Nat) : x % 256 / 128 % 2 = x / 128 % 2 := by omega
theorem pb8 (x : Nat) : x / 256 % 256 % 2 = x / 256 % 2 := by omega
theorem pb9 (x : Nat) : x / 256 % 256 / 2 % 2 = x / 512 % 2 := by omega
theorem pb10 (x : Nat) : x / 256 % 256 / 4 % 2 = x / 1024 % 2 := by omega
theorem pb11 (x : Nat) : x / 256 % 256 / 8 % 2 = x / 2048 % 2 := by omega
theorem pb12 (x : Nat) : x / 256 % 256 / 16 % 2 = x / 4096 % 2 := by omega
theorem pb13 (x : Nat) : x / 256 % 256 / 32 % 2 = x / 8192 % 2 := by omega
theorem pb14 (x : Nat) : x / 256 % 256 / 64 % 2 = x / 16384 % 2 := by omega
theorem pb15 (x : Nat) : x / 256 % 256 / 128 % 2 = x / 32768 % 2 := by omega
theorem pb16 (x : Nat) : x / 65536 % 2 = x / 65536 % 2 := by omega
theorem pb17 (x : Nat) : x / 65536 / 2 % 2 = x / 131072 % 2 := by omega
theorem pb18 (x : Nat) : x / 65536 / 4 % 2 = x / 262144 % 2 := by omega
theorem pb19 (x : Nat) : x / 65536 / 8 % 2 = x / 524288 % 2 := by omega
theorem pb20 (x : Nat) : x / 65536 / 16 % 2 = x / 1048576 % 2 := by omega
theorem pb21 (x : Nat) : x / 65536 / 32 % 2 = x / 2097152 % 2 := by omega
theorem pb22 (x : Nat) : x / 65536 / 64 % 2 = x / 4194304 % 2 := by omega
theorem pb23 (x : Nat) : x / 65536 / 128 % 2 = x / 8388608 % 2 := by omega
/-- The count as the slots' sum. -/
theorem pop24_sum (x : Nat) (hx : x < 16777216) : pop24 x = ((List.range 24).map fun s => x / 2 ^ s % 2).sum := by
  have e : ((List.range 24).map fun s => x / 2 ^ s % 2).sum = x / 1 % 2 + (x / 2 % 2 + (x / 4 % 2 + (x / 8 % 2 + (x / 16 % 2 + (x / 32 % 2 + (x / 64 % 2 + (x / 128 % 2 + (x / 256 % 2 + (x / 512 % 2 + (x / 1024 % 2 + (x / 2048 % 2 + (x / 4096 % 2 + (x / 8192 % 2 + (x / 16384 % 2 + (x / 32768 % 2 + (x / 65536 % 2 + (x / 131072 % 2 + (x / 262144 % 2 + (x / 524288 % 2 + (x / 1048576 % 2 + (x / 2097152 % 2 + (x / 4194304 % 2 + (x / 8388608 % 2 + 0))))))))))))))))))))))) := rfl
  rw [e]
  unfold pop24 pop8
  rw [pb0, pb1, pb2, pb3, pb4, pb5, pb6, pb7, pb8, pb9, pb10, pb11, pb12, pb13, pb14, pb15, pb16, pb17, pb18, pb19, pb20, pb21, pb22, pb23]
  clear e hx
  generalize x / 1 % 2 = t0
  generalize x / 2 % 2 = t1
  generalize x / 4 % 2 = t2
  generalize x / 8 % 2 = t3
  generalize x / 16 % 2 = t4
  generalize x / 32 % 2 = t5
  generalize x / 64 % 2 = t6
  generalize x / 128 % 2 = t7
  generalize x / 256 % 2 = t8
  generalize x / 512 % 2 = t9
  generalize x / 1024 % 2 = t10
  generalize x / 2048 % 2 = t11
  generalize x / 4096 % 2 = t12
  generalize x / 8192 % 2 = t13
  generalize x / 16384 % 2 = t14
  generalize x / 32768 % 2 = t15
  generalize x / 65536 % 2 = t16
  generalize x / 131072 % 2 = t17
  generalize x / 262144 % 2 = t18
  generalize x / 524288 % 2 = t19
  generalize x / 1048576 % 2 = t20
  generalize x / 2097152 % 2 = t21
  generalize x / 4194304 % 2 = t22
  generalize x / 8388608 % 2 = t23
  omega
end AT


namespace AT
theorem idx_in' {α : Type} {l : List α} {f : Int} (d : α) (h0 : 0 ≤ f) (h1 : f < (l.length : Int)) : idx l f = some (gd l f.toNat d) := by
  have := idx_gd (l := l) (i := f.toNat) d (by omega)
  rwa [Int.toNat_of_nonneg h0] at this
/-! ### The masks of all fibers -/
def mark1 (b : Int) (o : List Int) (f : Int) : List Int := o.set f.toNat (bor (gd o f.toNat 0) b)
theorem marks_len (b : Int) : ∀ (fs : List Int) (o : List Int), (fs.foldl (mark1 b) o).length = o.length
  | [], o => rfl
  | f :: fs, o => by rw [List.foldl_cons, marks_len b fs]; simp [mark1]
theorem mark1_gd (b : Int) (o : List Int) (f : Int) (k : Nat) (hk : k < o.length) : gd (mark1 b o f) k 0 = if f.toNat = k then bor (gd o k 0) b else gd o k 0 := by
  unfold mark1
  generalize hv : bor (gd o f.toNat 0) b = v
  by_cases h : f.toNat = k
  · subst h
    rw [if_pos rfl, hv]
    clear hv
    unfold gd
    rw [List.getElem?_set_self hk, Option.getD_some]
  · rw [if_neg h]
    unfold gd
    rw [List.getElem?_set_ne h]
theorem has_cons (f : Int) (fs : List Int) (k : Int) : has (f :: fs) k = (f == k || has fs k) := rfl
theorem marks_gd (b : Int) (fs : List Int) : ∀ (o : List Int) (k : Nat), fs.Nodup → (∀ f ∈ fs, 0 ≤ f) → k < o.length → gd (fs.foldl (mark1 b) o) k 0 = if has fs k = true then bor (gd o k 0) b else gd o k 0 := by
  induction fs with
  | nil =>
    intro o k _ _ _
    have h : has [] (k : Int) = false := rfl
    rw [h, List.foldl_nil, if_neg Bool.false_ne_true]
  | cons f fs ih =>
    intro o k hn h0 hk
    have hn' := List.nodup_cons.1 hn
    have hf := h0 f List.mem_cons_self
    have hl : (mark1 b o f).length = o.length := by unfold mark1; rw [List.length_set]
    rw [List.foldl_cons, ih (mark1 b o f) k hn'.2 (fun x hx => h0 x (List.mem_cons_of_mem _ hx)) (by omega), mark1_gd b o f k hk, has_cons]
    by_cases h : f.toNat = k
    · have hk' : f = (k : Int) := by omega
      have h1 : has fs k = false := by
        rw [Bool.eq_false_iff]
        intro hc
        unfold has at hc
        obtain ⟨x, hx, hc⟩ := List.any_eq_true.1 hc
        rw [beq_iff_eq] at hc
        exact hn'.1 (by rw [hk', ← hc]; exact hx)
      have h2 : (f == (k : Int)) = true := by rw [beq_iff_eq]; exact hk'
      rw [h1, h2, if_pos h, if_neg Bool.false_ne_true, Bool.true_or, if_pos rfl]
    · have hk' : (f == (k : Int)) = false := by rw [beq_eq_false_iff_ne]; omega
      rw [hk', if_neg h, Bool.false_or]
theorem marks_loop {fu : Nat} (e : Light) (hb : blkOk e.Block = true) (n : Nat) (hr : ∀ f ∈ e.Route.Fibers, 0 ≤ f ∧ f < (n : Int)) (hl : e.Route.Fibers.length ≤ 2097152) : ∀ (fk i : Nat) (o : List Int), o.length = n → i ≤ e.Route.Fibers.length → e.Route.Fibers.length - i < fk →
    ∃ z, impl_fiberMasks_L2 fu e fk o i = some ((e.Route.Fibers.drop i).foldl (mark1 (bits e.Block)) o, z) := by
  intro fk
  induction fk with
  | zero => intro i _ _ _ h; omega
  | succ fk ih =>
    intro i o ho hi hk
    rw [impl_fiberMasks_L2]
    by_cases h : i < e.Route.Fibers.length
    · have h' : (i : Int) < (e.Route.Fibers.length : Int) := by omega
      obtain ⟨x, hx⟩ : ∃ x, x = e.Route.Fibers[i] := ⟨_, rfl⟩
      have hr' := hr _ (List.getElem_mem h)
      rw [← hx] at hr'
      rw [← List.getElem_cons_drop h, List.foldl_cons]
      simp only [h', decide_true, if_true, idx_in h, ← hx, Option.bind_some, idx_in' 0 hr'.1 (show x < (o.length : Int) by omega), maskOf_eq hb, w64_inc h (show (e.Route.Fibers.length : Int) ≤ 9223372036854775807 by omega)]
      exact ih (i + 1) (mark1 (bits e.Block) o x) (by simpa [mark1] using ho) h (by omega)
    · obtain rfl : i = e.Route.Fibers.length := by omega
      rw [if_neg (by simp), List.drop_length]
      exact ⟨_, rfl⟩
def markAll (L : List Light) (o : List Int) : List Int := L.foldl (fun o e => e.Route.Fibers.foldl (mark1 (bits e.Block)) o) o
theorem markAll_len : ∀ (L : List Light) (o : List Int), (markAll L o).length = o.length
  | [], o => rfl
  | e :: L, o => by
    have := markAll_len L (e.Route.Fibers.foldl (mark1 (bits e.Block)) o)
    unfold markAll at this ⊢
    rw [List.foldl_cons, this, marks_len]
theorem markAll_gd : ∀ (L : List Light) (o : List Int) (k : Nat), (∀ e ∈ L, e.Route.Fibers.Nodup ∧ ∀ f ∈ e.Route.Fibers, 0 ≤ f) → k < o.length → gd (markAll L o) k 0 = L.foldl (fun o y => if has y.Route.Fibers k = true then bor o (bits y.Block) else o) (gd o k 0)
  | [], o, k, _, _ => by unfold markAll; rw [List.foldl_nil, List.foldl_nil]
  | e :: L, o, k, h, hk => by
    have he := h e (by simp)
    have := markAll_gd L (e.Route.Fibers.foldl (mark1 (bits e.Block)) o) k (fun x hx => h x (by simp [hx])) (by rw [marks_len]; exact hk)
    unfold markAll at this ⊢
    rw [List.foldl_cons, List.foldl_cons, this, marks_gd _ _ _ _ he.1 he.2 hk]
theorem masks_loop {fu : Nat} (hfu : 2097153 ≤ fu) (p : Plan) (n : Nat) (hl : p.Lights.length ≤ 2097152) (hb : ∀ e ∈ p.Lights, blkOk e.Block = true) (hr : ∀ e ∈ p.Lights, ∀ f ∈ e.Route.Fibers, 0 ≤ f ∧ f < (n : Int)) (hs : ∀ e ∈ p.Lights, e.Route.Fibers.length ≤ 2097152) : ∀ (fk i : Nat) (o : List Int), o.length = n → i ≤ p.Lights.length → p.Lights.length - i < fk →
    ∃ z, impl_fiberMasks_L1 fu p fk o i = some (markAll (p.Lights.drop i) o, z) := by
  intro fk
  induction fk with
  | zero => intro i _ _ _ h; omega
  | succ fk ih =>
    intro i o ho hi hk
    rw [impl_fiberMasks_L1]
    by_cases h : i < p.Lights.length
    · have h' : (i : Int) < (p.Lights.length : Int) := by omega
      have hm := List.getElem_mem h
      have hsm := hs _ hm
      obtain ⟨z, hz⟩ := marks_loop (fu := fu) p.Lights[i] (hb _ hm) n (hr _ hm) hsm fu 0 o ho (by omega) (by omega)
      rw [show ((0 : Nat) : Int) = 0 from rfl, List.drop_zero] at hz
      simp only [h', decide_true, if_true, idx_in h, Option.bind_some, hz, w64_inc h (show (p.Lights.length : Int) ≤ 9223372036854775807 by omega)]
      rw [← List.getElem_cons_drop h]
      exact ih (i + 1) _ (by rw [marks_len]; exact ho) h (by omega)
    · obtain rfl : i = p.Lights.length := by omega
      rw [if_neg (by simp), List.drop_length]
      exact ⟨_, rfl⟩
def maskL (L : List Light) (n : Nat) : List Int := (List.range n).map fun f : Nat => used L (f : Int)
theorem light_in {p : Plan} (hF : PlanF p) : ∀ e ∈ p.Lights, ∀ f ∈ e.Route.Fibers, 0 ≤ f ∧ f < (p.Network.Fibers.length : Int) := fun e he => by
  obtain ⟨o, ho⟩ := (hF.light e he).route
  exact rnodes_in ho
theorem fiberMasks_eq {fu : Nat} (hfu : 2097153 ≤ fu) (p : Plan) (hB : PlanB p) (hF : PlanF p) : impl_fiberMasks fu p = some (maskL p.Lights p.Network.Fibers.length) := by
  have hn := (netF hF.net).fib
  unfold impl_fiberMasks
  rw [mk_len (show p.Network.Fibers.length ≤ 2097152 by omega), Option.bind_some]
  obtain ⟨z, hz⟩ := masks_loop hfu p p.Network.Fibers.length hB.2.1 (fun e he => (hF.light e he).blk) (light_in hF) hB.2.2 fu 0 (List.replicate p.Network.Fibers.length 0) (by simp) (by omega) (by have := hB.2.1; omega)
  rw [show ((0 : Nat) : Int) = 0 from rfl, List.drop_zero] at hz
  rw [hz, Option.bind_some]
  congr 1
  apply List.ext_getElem
  · rw [markAll_len]; simp [maskL]
  · intro k h1 h2
    rw [markAll_len, List.length_replicate] at h1
    rw [← gd_in 0, markAll_gd _ _ _ (fun e he => ⟨(hF.light e he).nodup, fun f hf => (light_in hF e he f hf).1⟩) (by simpa using h1)]
    have : gd (List.replicate p.Network.Fibers.length (0 : Int)) k 0 = 0 := by unfold gd; simp [h1]
    rw [this]
    simp [maskL, used]
/-! ### The number of slots -/
theorem andu_nat {a b : Nat} (ha : a < 2 ^ 64) (hb : b < 2 ^ 64) : andu64 (a : Int) (b : Int) = ((a &&& b : Nat) : Int) := by
  unfold andu64
  have e : ∀ x : Nat, x < 2 ^ 64 → (BitVec.ofInt 64 (x : Int)).toNat = x := fun x hx => by
    rw [BitVec.toNat_ofInt]
    have : ((2 ^ 64 : Nat) : Int) = 18446744073709551616 := by decide
    rw [this]
    omega
  rw [BitVec.toNat_and, e a ha, e b hb]
  have : a &&& b < 2 ^ 64 := Nat.and_lt_two_pow _ hb
  unfold wu64
  omega
theorem shrk_nat (a k : Nat) (hk : k ≤ 64) : shrk 64 (a : Int) (k : Int) = some ((a / 2 ^ k : Nat) : Int) := by
  unfold shrk
  rw [if_neg (by omega), Int.toNat_natCast, Nat.min_eq_left hk]
  congr 1
  rw [Int.fdiv_eq_ediv_of_nonneg _ (by exact Int.pow_nonneg (by omega))]
  norm_cast
theorem wu_nat {a : Nat} (h : a < 2 ^ 64) : wu64 (a : Int) = (a : Int) := wu64_in (by omega) (by omega)
theorem wu_add {a b : Nat} (h : a + b < 2 ^ 64) : wu64 ((a : Int) + (b : Int)) = ((a + b : Nat) : Int) := by
  rw [← Int.natCast_add, wu_nat h]
theorem and_sum {a b M : Nat} (ha : a < 2 ^ 64) (hb : b < 2 ^ 64) (hM : M < 2 ^ 64) (h : (a &&& M) + (b &&& M) < 2 ^ 64) : wu64 (andu64 (a : Int) (M : Int) + andu64 (b : Int) (M : Int)) = (((a &&& M) + (b &&& M) : Nat) : Int) := by
  rw [andu_nat ha hM, andu_nat hb hM, wu_add h]
theorem shrk_int (a k : Nat) (K : Int) (hK : K = (k : Int)) (hk : k ≤ 64) : shrk 64 (a : Int) K = some ((a / 2 ^ k : Nat) : Int) := by rw [hK]; exact shrk_nat a k hk
theorem ones_tail {y3 a b c : Nat} (hy3 : y3 = a + 256 * (b + 256 * c)) (la : a ≤ 8) (lb : b ≤ 8) (lc : c ≤ 8) :
    ((shrk 64 (y3 : Int) 8).bind fun q4 => (shrk 64 (wu64 ((y3 : Int) + q4)) 16).bind fun q5 => (shrk 64 (wu64 (wu64 ((y3 : Int) + q4) + q5)) 32).bind fun q6 => some (band (w64 (wu64 (wu64 (wu64 ((y3 : Int) + q4) + q5) + q6))) 127)) = some ((a + (b + c) : Nat) : Int) := by
  obtain ⟨y4, hy4⟩ : ∃ y, y = y3 + y3 / 2 ^ 8 := ⟨_, rfl⟩
  obtain ⟨y5, hy5⟩ : ∃ y, y = y4 + y4 / 2 ^ 16 := ⟨_, rfl⟩
  have h5 : y5 = (a + (b + c)) + 256 * (b + c) + 65536 * c := by omega
  have h6 : y5 / 2 ^ 32 = 0 := by omega
  have hm : y5 % 128 = a + (b + c) := by omega
  rw [shrk_int y3 8 8 rfl (by omega), Option.bind_some, wu_add (by omega), ← hy4, shrk_int y4 16 16 rfl (by omega), Option.bind_some, wu_add (by omega), ← hy5, shrk_int y5 32 32 rfl (by omega), Option.bind_some, h6, wu_add (by omega), Nat.add_zero, w64_in (by omega) (by omega)]
  have e127 : (127 : Int) = ((127 : Nat) : Int) := rfl
  rw [e127, band_eq (a := (y5 : Int)) (b := ((127 : Nat) : Int)) ⟨by omega, by omega⟩ ⟨by omega, by omega⟩, Int.toNat_natCast, Int.toNat_natCast]
  have h127 := Nat.and_two_pow_sub_one_eq_mod y5 7
  rw [show (127 : Nat) = 2 ^ 7 - 1 from rfl, h127, show (2 : Nat) ^ 7 = 128 from rfl, hm]
theorem ones_head {x y1 y2 y3 : Nat} (hx : x < 2 ^ 64) (h1 : y1 = (x / 2 &&& 0x5555555555555555) + (x &&& 0x5555555555555555)) (h2 : y2 = (y1 / 4 &&& 0x3333333333333333) + (y1 &&& 0x3333333333333333)) (h3 : y3 = (y2 / 16 + y2) &&& 0x0f0f0f0f0f0f0f0f) (l1 : y1 < 16777216) (l2 : y2 < 16777216) {M1 M2 M3 : Int} (e1 : M1 = ((0x5555555555555555 : Nat) : Int)) (e2 : M2 = ((0x3333333333333333 : Nat) : Int)) (e3 : M3 = ((0x0f0f0f0f0f0f0f0f : Nat) : Int)) {R : Type} (k : Int → Option R) :
    ((shrk 64 (x : Int) 1).bind fun q => (shrk 64 (wu64 (andu64 q M1 + andu64 (x : Int) M1)) 2).bind fun q2 => (shrk 64 (wu64 (andu64 q2 M2 + andu64 (wu64 (andu64 q M1 + andu64 (x : Int) M1)) M2)) 4).bind fun q3 => k (andu64 (wu64 (q3 + wu64 (andu64 q2 M2 + andu64 (wu64 (andu64 q M1 + andu64 (x : Int) M1)) M2))) M3)) = k (y3 : Int) := by
  subst e1 e2 e3
  have a1 : (x / 2 ^ 1 &&& 0x5555555555555555) + (x &&& 0x5555555555555555) = y1 := h1.symm
  have a2 : (y1 / 2 ^ 2 &&& 0x3333333333333333) + (y1 &&& 0x3333333333333333) = y2 := h2.symm
  have a3 : (y2 / 2 ^ 4 + y2) &&& 0x0f0f0f0f0f0f0f0f = y3 := h3.symm
  rw [shrk_int x 1 1 rfl (by omega), Option.bind_some, and_sum (by omega) (by omega) (by omega) (by rw [a1]; omega), a1, shrk_int y1 2 2 rfl (by omega), Option.bind_some, and_sum (by omega) (by omega) (by omega) (by rw [a2]; omega), a2, shrk_int y2 4 4 rfl (by omega), Option.bind_some, wu_add (by omega), andu_nat (by omega) (by omega), a3]
theorem ones_eq {fu : Nat} {m : Int} (hm : MK m) : math_bits_OnesCount fu ⟨wu64 m⟩ = some ((pop24 m.toNat : Nat) : Int) := by
  obtain ⟨x, rfl⟩ := Int.eq_ofNat_of_zero_le hm.1
  have hx : x < 16777216 := by have := hm.2; omega
  obtain ⟨p1, p2, p3⟩ := pop_core hx
  have hh := ones_head (M1 := 6148914691236517205) (M2 := 3689348814741910323) (M3 := 1085102592571150095) (show x < 2 ^ 64 by omega) rfl rfl rfl p1 p2 rfl rfl rfl (R := Int)
  have ht := ones_tail p3 (pop8_le _) (pop8_le _) (pop8_le _)
  unfold math_bits_OnesCount math_bits_OnesCount64
  rw [Int.toNat_natCast, wu_nat (show x < 2 ^ 64 by omega)]
  have h := (hh fun y => (shrk 64 y 8).bind fun q4 => (shrk 64 (wu64 (y + q4)) 16).bind fun q5 => (shrk 64 (wu64 (wu64 (y + q4) + q5)) 32).bind fun q6 => some (band (w64 (wu64 (wu64 (wu64 (y + q4) + q5) + q6))) 127)).trans ht
  rw [h]
  rfl
theorem pop24_le (x : Nat) : pop24 x ≤ 24 := by
  have := pop8_le (x % 256)
  have := pop8_le (x / 256 % 256)
  have := pop8_le (x / 65536)
  unfold pop24
  omega
end AT

