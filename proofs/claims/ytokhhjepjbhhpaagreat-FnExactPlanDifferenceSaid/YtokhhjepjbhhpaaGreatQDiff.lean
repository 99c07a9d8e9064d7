/- The difference of two plans, plainly. -/
import Derived.Test.YtokhhjepjbhhpaaGreatQAct
import Derived.Test.YtokhhjepjbhhpaaGreatQChange
set_option linter.unusedSimpArgs false
set_option linter.unusedVariables false
namespace AT
/-! ### A loop that keeps some -/
theorem filt_loop {α β : Type} (L : List α) (c : α → Bool) (f : α → β) (G : Nat → List β → Int → Option (List β × Int)) (hL : L.length ≤ 2097152)
    (hG : ∀ fk (i : Nat) o (h : i < L.length), o.length ≤ 10000000 → G (fk + 1) o i = if c L[i] = true then G fk (o ++ [f L[i]]) (w64 ((i : Int) + 1)) else G fk o (w64 ((i : Int) + 1)))
    (hz : ∀ fk o, G (fk + 1) o L.length = some (o, (L.length : Int))) : ∀ (fk i : Nat) (o : List β), i ≤ L.length → L.length - i < fk → o.length + (L.length - i) ≤ 10000000 → G fk o i = some (o ++ ((L.drop i).filter c).map f, (L.length : Int)) := by
  intro fk
  induction fk with
  | zero => intro i _ _ h; omega
  | succ fk ih =>
    intro i o hi hk ho
    by_cases h : i < L.length
    · rw [hG fk i o h (by omega), w64_inc h (by omega), ← List.getElem_cons_drop h, List.filter_cons]
      by_cases hc : c L[i] = true
      · rw [if_pos hc, if_pos hc, ih (i + 1) (o ++ [f L[i]]) h (by omega) (by rw [List.length_append, List.length_singleton]; omega), List.append_assoc]
        rfl
      · rw [if_neg hc, if_neg hc, ih (i + 1) o h (by omega) (by omega)]
    · obtain rfl : i = L.length := by omega
      rw [hz, List.drop_length]
      simp
/-! ### Equal networks -/
def nodeNe (a b : Network) (i : Nat) : Bool := !((gd a.Nodes i nm0).toList == (gd b.Nodes i nm0).toList)
def fibNe (a b : Network) (i : Nat) : Bool := !(([(gd a.Fibers i f0).A, (gd a.Fibers i f0).B, (gd a.Fibers i f0).Length, (gd a.Fibers i f0).Risk] : List Int) == ([(gd b.Fibers i f0).A, (gd b.Fibers i f0).B, (gd b.Fibers i f0).Length, (gd b.Fibers i f0).Risk] : List Int))
def netSame (a b : Network) : Bool := decide (a.Nodes.length = b.Nodes.length) && (decide (a.Fibers.length = b.Fibers.length) && (!(List.range a.Nodes.length).any (nodeNe a b) && !(List.range a.Fibers.length).any (fibNe a b)))
theorem len_ne {α β : Type} (a : List α) (b : List β) : ((a.length : Int) != (b.length : Int)) = !decide (a.length = b.length) := by
  rw [Bool.eq_iff_iff]
  simp only [bne_iff_ne, ne_eq, Bool.not_eq_true', decide_eq_false_iff_not]
  omega
theorem equalNetworks_eq {fu : Nat} (hfu : 2097153 ≤ fu) (a b : Network) (ha : NetB a) : impl_equalNetworks fu a b = some (netSame a b) := by
  have h1 := ha.1.1
  have h2 := ha.2
  unfold impl_equalNetworks netSame slices_Equal_string_string slices_Equal_impl_Fiber_impl_Fiber
  rw [len_ne, len_ne]
  by_cases e1 : a.Nodes.length = b.Nodes.length
  · rw [scan_all (l := List.range a.Nodes.length) (G := slices_Equal_string_string_L1 fu a.Nodes b.Nodes) (nodeNe a b) (fun _ => false) (by simp; omega)
      (fun fk i hi => by
        have hi' : i < a.Nodes.length := by simpa using hi
        have h' : (i : Int) < (a.Nodes.length : Int) := by omega
        rw [slices_Equal_string_string_L1, List.getElem_range]
        simp only [h', decide_true, if_true, idx_gd nm0 hi', idx_gd nm0 (show i < b.Nodes.length by omega), Option.bind_some, nodeNe]
        rfl)
      (fun fk => by rw [List.length_range, slices_Equal_string_string_L1, if_neg (by simp)]) fu (by simp; omega)]
    by_cases e2 : a.Fibers.length = b.Fibers.length
    · rw [scan_all (l := List.range a.Fibers.length) (G := slices_Equal_impl_Fiber_impl_Fiber_L1 fu a.Fibers b.Fibers) (fibNe a b) (fun _ => false) (by simp; omega)
        (fun fk i hi => by
          have hi' : i < a.Fibers.length := by simpa using hi
          have h' : (i : Int) < (a.Fibers.length : Int) := by omega
          rw [slices_Equal_impl_Fiber_impl_Fiber_L1, List.getElem_range]
          simp only [h', decide_true, if_true, idx_gd f0 hi', idx_gd f0 (show i < b.Fibers.length by omega), Option.bind_some, fibNe]
          rfl)
        (fun fk => by rw [List.length_range, slices_Equal_impl_Fiber_impl_Fiber_L1, if_neg (by simp)]) fu (by simp; omega)]
      rw [decide_eq_true e1, decide_eq_true e2]
      cases (List.range a.Nodes.length).any (nodeNe a b) <;> cases (List.range a.Fibers.length).any (fibNe a b) <;> rfl
    · rw [decide_eq_true e1, decide_eq_false e2]
      cases (List.range a.Nodes.length).any (nodeNe a b) <;> rfl
  · rw [decide_eq_false e1]
    rfl
theorem l20Networks_eq {fu : Nat} (hfu : 2097153 ≤ fu) (p q : Plan) (ha : NetB p.Network) : spec_l20Networks fu p q = some (netSame p.Network q.Network) := by
  have h1 := ha.1.1
  have h2 := ha.2
  obtain ⟨fk, rfl⟩ : ∃ fk, fu = fk + 1 := ⟨fu - 1, by omega⟩
  unfold spec_l20Networks spec_l9Same netSame
  simp only [len_ne]
  by_cases e1 : p.Network.Nodes.length = q.Network.Nodes.length
  · by_cases e2 : p.Network.Fibers.length = q.Network.Fibers.length
    · rw [scan_all (l := List.range p.Network.Nodes.length) (G := spec_l9Same_L1 (fk + 1) ({ Network := p.Network, Lights := [] } : Plan) ({ Network := q.Network, Lights := [] } : Plan)) (nodeNe p.Network q.Network) (fun _ => false) (by simp; omega)
        (fun fk' i hi => by
          have hi' : i < p.Network.Nodes.length := by simpa using hi
          have h' : (i : Int) < (p.Network.Nodes.length : Int) := by omega
          rw [spec_l9Same_L1, List.getElem_range]
          simp only [h', decide_true, if_true, idx_gd nm0 hi', idx_gd nm0 (show i < q.Network.Nodes.length by omega), Option.bind_some, nodeNe]
          rfl)
        (fun fk' => by rw [List.length_range, spec_l9Same_L1, if_neg (by simp)]) (fk + 1) (by simp; omega)]
      rw [scan_all (l := List.range p.Network.Fibers.length) (G := spec_l9Same_L2 (fk + 1) ({ Network := p.Network, Lights := [] } : Plan) ({ Network := q.Network, Lights := [] } : Plan)) (fibNe p.Network q.Network) (fun _ => false) (by simp; omega)
        (fun fk' i hi => by
          have hi' : i < p.Network.Fibers.length := by simpa using hi
          have h' : (i : Int) < (p.Network.Fibers.length : Int) := by omega
          rw [spec_l9Same_L2, List.getElem_range]
          simp only [h', decide_true, if_true, idx_gd f0 hi', idx_gd f0 (show i < q.Network.Fibers.length by omega), Option.bind_some, fibNe]
          rfl)
        (fun fk' => by rw [List.length_range, spec_l9Same_L2, if_neg (by simp)]) (fk + 1) (by simp; omega)]
      have h3 : spec_l9Same_L3 (fk + 1) ({ Network := p.Network, Lights := [] } : Plan) ({ Network := q.Network, Lights := [] } : Plan) (fk + 1) 0 = some (.next 0) := by
        rw [spec_l9Same_L3, if_neg (by simp)]
      rw [h3, decide_eq_true e1, decide_eq_true e2]
      cases (List.range p.Network.Nodes.length).any (nodeNe p.Network q.Network) <;> cases (List.range p.Network.Fibers.length).any (fibNe p.Network q.Network) <;> rfl
    · rw [decide_eq_true e1, decide_eq_false e2]
      rfl
  · rw [decide_eq_false e1]
    rfl
/-! ### The actions of a difference -/
def remL (p q : Plan) : List Action := (p.Lights.filter fun x => !has_ q x.Id).map fun x => ⟨2, x⟩
def movL (p q : Plan) (L : List Light) : List Action := (L.filter fun x => has_ p x.Id && !decide (gd p.Lights (atId p.Lights x.Id) l0 = x)).map fun x => ⟨3, x⟩
def addL (p q : Plan) (L : List Light) : List Action := (L.filter fun x => !has_ p x.Id).map fun x => ⟨1, x⟩
theorem find_has {fu : Nat} (hfu : 2097153 ≤ fu) (q : Plan) (id : Int) (hq : q.Lights.length ≤ 2097152) : ∃ y, spec_l9Find fu q id = some y ∧ impl_lightAt fu q id = some y ∧ decide (y < 0) = !has_ q id ∧ decide (y ≥ 0) = has_ q id ∧ (has_ q id = true → y = ((atId q.Lights id : Nat) : Int) ∧ atId q.Lights id < q.Lights.length) := by
  rw [l9Find_eq q id (by omega) hq, lightAt_eq q id (by omega) hq]
  cases hh : has_ q id
  · have hh' : (q.Lights.any fun y => y.Id == id) = false := hh
    rw [hh']
    exact ⟨_, rfl, rfl, rfl, rfl, fun h => by cases h⟩
  · have hh' : (q.Lights.any fun y => y.Id == id) = true := hh
    rw [hh']
    exact ⟨_, rfl, rfl, by simp, by simp, fun _ => ⟨rfl, atId_lt hh'⟩⟩
theorem specDiff_eq {fu : Nat} (hfu : 2097153 ≤ fu) (p q : Plan) (hp : PlanB p) (hq : PlanB q) (sp : p.Lights.length ≤ 12) (sq : q.Lights.length ≤ 12) : spec_l20Difference fu p q = some (remL p q ++ (movL p q q.Lights ++ addL p q q.Lights)) := by
  unfold spec_l20Difference
  have g1 := filt_loop p.Lights (fun x => !has_ q x.Id) (fun x => (⟨2, x⟩ : Action)) (spec_l20Difference_L1 fu p q) hp.2.1
    (fun fk i o h ho => by
      have h' : (i : Int) < (p.Lights.length : Int) := by omega
      obtain ⟨y, y1, -, y3, -⟩ := find_has hfu q p.Lights[i].Id hq.2.1
      have ha : app o [(⟨2, p.Lights[i]⟩ : Action)] = some (o ++ [(⟨2, p.Lights[i]⟩ : Action)]) := app_ok (by rw [List.length_singleton]; omega)
      rw [spec_l20Difference_L1]
      simp only [h', decide_true, if_true, idx_in h, Option.bind_some, y1, y3, l9Copy_eq fu _ (hp.2.2 _ (List.getElem_mem h)), ha])
    (fun fk o => by rw [spec_l20Difference_L1, if_neg (by simp)]) fu 0 [] (by omega) (by omega) (by simp; omega)
  rw [show ((0 : Nat) : Int) = 0 from rfl, List.nil_append, List.drop_zero] at g1
  rw [g1, Option.bind_some]
  have hr : (remL p q).length ≤ 12 := by
    unfold remL
    rw [List.length_map]
    exact Nat.le_trans (List.length_filter_le _ _) sp
  have g2 := filt_loop q.Lights (fun x => has_ p x.Id && !decide (gd p.Lights (atId p.Lights x.Id) l0 = x)) (fun x => (⟨3, x⟩ : Action)) (spec_l20Difference_L2 fu p q) hq.2.1
    (fun fk i o h ho => by
      have h' : (i : Int) < (q.Lights.length : Int) := by omega
      obtain ⟨y, y1, -, -, y4, y5⟩ := find_has hfu p q.Lights[i].Id hp.2.1
      have ha : app o [(⟨3, q.Lights[i]⟩ : Action)] = some (o ++ [(⟨3, q.Lights[i]⟩ : Action)]) := app_ok (by rw [List.length_singleton]; omega)
      rw [spec_l20Difference_L2]
      cases hh : has_ p q.Lights[i].Id
      · rw [hh] at y4
        simp only [h', decide_true, if_true, idx_in h, Option.bind_some, y1, y4, Bool.false_eq_true, if_false, Bool.false_and]
      · rw [hh] at y4
        obtain ⟨y6, y7⟩ := y5 hh
        subst y6
        simp only [h', decide_true, if_true, idx_in h, Option.bind_some, y1, y4, idx_gd l0 y7, l20Same_eq hfu _ q.Lights[i] (hp.2.2 _ (gd_mem l0 y7)), Bool.true_and, l9Copy_eq fu _ (hq.2.2 _ (List.getElem_mem h)), ha])
    (fun fk o => by rw [spec_l20Difference_L2, if_neg (by simp)]) fu 0 (remL p q) (by omega) (by omega) (by omega)
  rw [show ((0 : Nat) : Int) = 0 from rfl, List.drop_zero] at g2
  have g2' : spec_l20Difference_L2 fu p q fu ((p.Lights.filter fun x => !has_ q x.Id).map fun x => (⟨2, x⟩ : Action)) 0 = _ := g2
  rw [g2', Option.bind_some]
  have hm : (movL p q q.Lights).length ≤ 12 := by
    unfold movL
    rw [List.length_map]
    exact Nat.le_trans (List.length_filter_le _ _) sq
  have g3 := filt_loop q.Lights (fun x => !has_ p x.Id) (fun x => (⟨1, x⟩ : Action)) (spec_l20Difference_L3 fu p q) hq.2.1
    (fun fk i o h ho => by
      have h' : (i : Int) < (q.Lights.length : Int) := by omega
      obtain ⟨y, y1, -, y3, -⟩ := find_has hfu p q.Lights[i].Id hp.2.1
      have ha : app o [(⟨1, q.Lights[i]⟩ : Action)] = some (o ++ [(⟨1, q.Lights[i]⟩ : Action)]) := app_ok (by rw [List.length_singleton]; omega)
      rw [spec_l20Difference_L3]
      simp only [h', decide_true, if_true, idx_in h, Option.bind_some, y1, y3, l9Copy_eq fu _ (hq.2.2 _ (List.getElem_mem h)), ha])
    (fun fk o => by rw [spec_l20Difference_L3, if_neg (by simp)]) fu 0 (remL p q ++ movL p q q.Lights) (by omega) (by omega) (by rw [List.length_append]; omega)
  rw [show ((0 : Nat) : Int) = 0 from rfl, List.drop_zero] at g3
  have g3' : spec_l20Difference_L3 fu p q fu (remL p q ++ (q.Lights.filter fun x => has_ p x.Id && !decide (gd p.Lights (atId p.Lights x.Id) l0 = x)).map fun x => (⟨3, x⟩ : Action)) 0 = _ := g3
  rw [g3', Option.bind_some, List.append_assoc]
  rfl
theorem movL_cons {p q : Plan} {x : Light} {L : List Light} : movL p q (x :: L) = if (has_ p x.Id && !decide (gd p.Lights (atId p.Lights x.Id) l0 = x)) = true then ⟨3, x⟩ :: movL p q L else movL p q L := by
  unfold movL
  rw [List.filter_cons]
  split <;> rfl
theorem addL_cons {p q : Plan} {x : Light} {L : List Light} : addL p q (x :: L) = if (!has_ p x.Id) = true then ⟨1, x⟩ :: addL p q L else addL p q L := by
  unfold addL
  rw [List.filter_cons]
  split <;> rfl
theorem two_loop {fu : Nat} (hfu : 2097153 ≤ fu) (p q : Plan) (hp : PlanB p) (hq : PlanB q) (sq : q.Lights.length ≤ 12) : ∀ (fk i : Nat) (a m : List Action), i ≤ q.Lights.length → q.Lights.length - i < fk → a.length ≤ i → m.length ≤ i →
    ∃ z, impl_PlanDifference_L2 fu p q fk a i m = some (a ++ addL p q (q.Lights.drop i), z, m ++ movL p q (q.Lights.drop i)) := by
  intro fk
  induction fk with
  | zero => intro i _ _ _ h; omega
  | succ fk ih =>
    intro i a m hi hk ha hm
    rw [impl_PlanDifference_L2]
    by_cases h : i < q.Lights.length
    · have h' : (i : Int) < (q.Lights.length : Int) := by omega
      obtain ⟨y, -, y2, y3, -, y5⟩ := find_has hfu p q.Lights[i].Id hp.2.1
      have h1 : app a [(⟨1, q.Lights[i]⟩ : Action)] = some (a ++ [(⟨1, q.Lights[i]⟩ : Action)]) := app_ok (by rw [List.length_singleton]; omega)
      have h3 : app m [(⟨3, q.Lights[i]⟩ : Action)] = some (m ++ [(⟨3, q.Lights[i]⟩ : Action)]) := app_ok (by rw [List.length_singleton]; omega)
      rw [← List.getElem_cons_drop h, movL_cons, addL_cons]
      simp only [h', decide_true, if_true, idx_in h, Option.bind_some, y2, y3]
      rw [w64_inc h (by omega)]
      cases hh : has_ p q.Lights[i].Id
      · simp only [Bool.not_false, if_true, h1, Option.bind_some, Bool.false_and, Bool.false_eq_true, if_false]
        obtain ⟨z, hz⟩ := ih (i + 1) (a ++ [(⟨1, q.Lights[i]⟩ : Action)]) m h (by omega) (by rw [List.length_append, List.length_singleton]; omega) (by omega)
        exact ⟨z, by rw [hz, List.append_assoc, List.singleton_append]⟩
      · obtain ⟨y6, y7⟩ := y5 hh
        subst y6
        simp only [Bool.not_true, Bool.false_eq_true, if_false, idx_gd l0 y7, equalLights_eq hfu _ q.Lights[i] (hp.2.2 _ (gd_mem l0 y7)), Option.bind_some, Bool.true_and]
        by_cases hc : gd p.Lights (atId p.Lights q.Lights[i].Id) l0 = q.Lights[i]
        · simp only [hc, decide_true, Bool.not_true, Bool.false_eq_true, if_false]
          exact ih (i + 1) a m h (by omega) (by omega) (by omega)
        · simp only [hc, decide_false, Bool.not_false, if_true, h3, Option.bind_some]
          obtain ⟨z, hz⟩ := ih (i + 1) a (m ++ [(⟨3, q.Lights[i]⟩ : Action)]) h (by omega) (by omega) (by rw [List.length_append, List.length_singleton]; omega)
          exact ⟨z, by rw [hz, List.append_assoc m, List.singleton_append]⟩
    · obtain rfl : i = q.Lights.length := by omega
      rw [if_neg (by simp), List.drop_length]
      exact ⟨_, by simp [addL, movL]; rfl⟩
theorem w64_addQ {i j : Nat} (h : i ≤ 20971520) (h2 : j ≤ 20971520) : w64 ((i : Int) + (j : Int)) = ((i + j : Nat) : Int) := by rw [w64_in (by omega) (by omega)]; omega
theorem concat1 {fu : Nat} (S : List (List Action)) (hS : S.length ≤ 10) (hl : ∀ x ∈ S, x.length ≤ 2097152) : ∀ (fk i n : Nat), i ≤ S.length → S.length - i < fk → n ≤ 2097152 * i → ∃ (m : Nat) (z : Int), slices_Concat_impl_Action_impl_Action_L1 fu S fk (n : Int) (i : Int) = some ((m : Int), z) ∧ m ≤ 20971520 := by
  intro fk
  induction fk with
  | zero => intro i _ _ h; omega
  | succ fk ih =>
    intro i n hi hk hn
    rw [slices_Concat_impl_Action_impl_Action_L1]
    by_cases h : i < S.length
    · have h' : (i : Int) < (S.length : Int) := by omega
      have hx := hl _ (List.getElem_mem h)
      have hneg : ¬ ((n + S[i].length : Nat) : Int) < 0 := by omega
      have k1 : n ≤ 20971520 := by omega
      have k2 : S[i].length ≤ 20971520 := by omega
      have k3 : S.length - (i + 1) < fk := by omega
      have k4 : n + S[i].length ≤ 2097152 * (i + 1) := by omega
      have k5 : (S.length : Int) ≤ 9223372036854775807 := by omega
      obtain ⟨m, z, r1, r2⟩ := ih (i + 1) (n + S[i].length) h k3 k4
      refine ⟨m, z, ?_, r2⟩
      rw [← r1]
      have e1 : decide ((i : Int) < (S.length : Int)) = true := decide_eq_true h'
      have e2 : decide (((n + S[i].length : Nat) : Int) < 0) = false := decide_eq_false hneg
      rw [if_pos e1, idx_in h, Option.bind_some, w64_addQ k1 k2, e2, if_neg Bool.false_ne_true, w64_inc h k5]
    · obtain rfl : i = S.length := by omega
      rw [if_neg (by simp)]
      exact ⟨n, _, rfl, by omega⟩
theorem concat2 {fu : Nat} (S : List (List Action)) (hS : S.length ≤ 10) (hl : ∀ x ∈ S, x.length ≤ 2097152) : ∀ (fk i : Nat) (o : List Action), i ≤ S.length → S.length - i < fk → o.length ≤ 2097152 * i → ∃ z, slices_Concat_impl_Action_impl_Action_L2 fu S fk o (i : Int) = some (o ++ (S.drop i).flatten, z) := by
  intro fk
  induction fk with
  | zero => intro i _ _ h; omega
  | succ fk ih =>
    intro i o hi hk hn
    rw [slices_Concat_impl_Action_impl_Action_L2]
    by_cases h : i < S.length
    · have h' : (i : Int) < (S.length : Int) := by omega
      have hx := hl _ (List.getElem_mem h)
      have ha : app o S[i] = some (o ++ S[i]) := app_ok (by omega)
      simp only [h', decide_true, if_true, idx_in h, Option.bind_some, ha]
      rw [w64_inc h (by omega)]
      obtain ⟨z, hz⟩ := ih (i + 1) (o ++ S[i]) h (by omega) (by rw [List.length_append]; omega)
      exact ⟨z, by rw [hz, ← List.getElem_cons_drop h, List.flatten_cons, List.append_assoc]⟩
    · obtain rfl : i = S.length := by omega
      rw [if_neg (by simp), List.drop_length]
      exact ⟨_, by simp; rfl⟩
theorem concat_eq {fu : Nat} (hfu : 2097153 ≤ fu) (S : List (List Action)) (hS : S.length ≤ 10) (hl : ∀ x ∈ S, x.length ≤ 2097152) : slices_Concat_impl_Action_impl_Action fu S = some S.flatten := by
  unfold slices_Concat_impl_Action_impl_Action
  obtain ⟨m, z, h1, h2⟩ := concat1 (fu := fu) S hS hl fu 0 0 (by omega) (by omega) (by omega)
  have h0 : ((0 : Nat) : Int) = 0 := rfl
  rw [h0] at h1
  have hg : (grow0 (m : Int) : Option (List Action)) = some [] := by unfold grow0; rw [if_pos (by omega)]
  obtain ⟨z2, h3⟩ := concat2 (fu := fu) S hS hl fu 0 [] (by omega) (by omega) (by simp)
  rw [h0] at h3
  rw [h1, Option.bind_some, hg, Option.bind_some, h3, Option.bind_some, List.nil_append, List.drop_zero]
theorem diff_mem {p q : Plan} {a : Action} (h : a ∈ remL p q ++ (movL p q q.Lights ++ addL p q q.Lights)) : a.Light ∈ p.Lights ∨ a.Light ∈ q.Lights := by
  rw [List.mem_append, List.mem_append] at h
  rcases h with h | h | h
  · obtain ⟨x, hx, rfl⟩ := List.mem_map.1 h
    exact .inl (List.mem_filter.1 hx).1
  · obtain ⟨x, hx, rfl⟩ := List.mem_map.1 h
    exact .inr (List.mem_filter.1 hx).1
  · obtain ⟨x, hx, rfl⟩ := List.mem_map.1 h
    exact .inr (List.mem_filter.1 hx).1
end AT

