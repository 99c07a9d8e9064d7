/- Copies of plans, and the step that moves the first light that can be moved, plainly. -/
import Derived.Test.YtokhhjepjbhhpaaGreatQLowB
set_option linter.unusedSimpArgs false
set_option linter.unusedVariables false
namespace AT
/-! ### Copies -/
theorem copyRoute_eq (fu : Nat) (r : Route) (h : r.Fibers.length ≤ 2097152) : impl_copyRoute fu r = some r := by
  unfold impl_copyRoute
  rw [app_nil (by omega)]
  rfl
theorem copy_loop {fu : Nat} (p : Plan) (hl : p.Lights.length ≤ 2097152) (hr : ∀ x ∈ p.Lights, x.Route.Fibers.length ≤ 2097152) : ∀ (fk i : Nat) (m : List Light), i ≤ p.Lights.length → p.Lights.length - i < fk → m.length ≤ i → ∃ z, impl_copyPlan_L1 fu p fk i m = some (z, m ++ p.Lights.drop i) := by
  intro fk
  induction fk with
  | zero => intro i _ _ h; omega
  | succ fk ih =>
    intro i m hi hk hm
    rw [impl_copyPlan_L1]
    by_cases h : i < p.Lights.length
    · have h' : (i : Int) < (p.Lights.length : Int) := by omega
      simp only [h', decide_true, if_true, idx_in h, Option.bind_some, copyRoute_eq fu _ (hr _ (List.getElem_mem h))]
      rw [app_ok (by simp; omega), Option.bind_some, w64_inc h (by omega)]
      obtain ⟨z, hz⟩ := ih (i + 1) (m ++ [p.Lights[i]]) h (by omega) (by simp; omega)
      refine ⟨z, ?_⟩
      rw [hz, List.append_assoc, ← List.getElem_cons_drop h]
      rfl
    · obtain rfl : i = p.Lights.length := by omega
      rw [if_neg (by simp), List.drop_length, List.append_nil]
      exact ⟨_, rfl⟩
theorem copyPlan_eq {fu : Nat} (hfu : 2097153 ≤ fu) (p : Plan) (hB : PlanB p) : impl_copyPlan fu p = some p := by
  obtain ⟨hN, hL, hR⟩ := hB
  unfold impl_copyPlan impl_copyNetwork
  have h1 := hN.1.1
  have h2 := hN.2
  rw [app_nil (by omega), Option.bind_some, app_nil (by omega)]
  obtain ⟨z, hz⟩ := copy_loop (fu := fu) p hL hR fu 0 [] (by omega) (by omega) (by simp)
  rw [show ((0 : Nat) : Int) = 0 from rfl] at hz
  simp only [Option.bind_some, hz, List.nil_append, List.drop_zero]
/-! ### The step -/
def setF (p : Plan) (i : Nat) (r : Int) : Plan := { Network := p.Network, Lights := p.Lights.set i ⟨(gd p.Lights i l0).Id, (gd p.Lights i l0).Route, ⟨r, (gd p.Lights i l0).Block.Count⟩⟩ }
structure PlanG (p : Plan) : Prop where
  b : PlanB p
  f : PlanF p
  i : PlanI p
theorem planG {p : Plan} (hB : PlanB p) (h : planOk p = true) : PlanG p := ⟨hB, planF h, planI h⟩
theorem gd_set {α : Type} {l : List α} {i j : Nat} {x d : α} : gd (l.set i x) j d = if i = j ∧ j < l.length then x else gd l j d := by
  unfold gd
  rw [List.getElem?_set]
  by_cases h : i = j
  · subst h
    by_cases h' : i < l.length
    · simp [h']
    · simp [h']
  · simp [h]
theorem setF_G {p : Plan} (h : PlanG p) {i : Nat} (hi : i < p.Lights.length) {r : Int} (h0 : 0 ≤ r) (h1 : r ≤ (gd p.Lights i l0).Block.First) : PlanG (setF p i r) := by
  obtain ⟨hB, hF, hI⟩ := h
  have hx := hF.light _ (gd_mem l0 hi)
  have hlen : (setF p i r).Lights.length = p.Lights.length := by simp [setF]
  have hb := hx.blk
  simp only [blkOk, Bool.and_eq_true, decide_eq_true_eq] at hb
  have hmem : ∀ y ∈ (setF p i r).Lights, y ∈ p.Lights ∨ y = ⟨(gd p.Lights i l0).Id, (gd p.Lights i l0).Route, ⟨r, (gd p.Lights i l0).Block.Count⟩⟩ := fun y hy => by
    rcases List.mem_or_eq_of_mem_set hy with h | h
    · exact .inl h
    · exact .inr h
  refine ⟨⟨hB.1, by rw [hlen]; exact hB.2.1, fun y hy => ?_⟩, ⟨hF.net, by rw [hlen]; exact hF.short, fun y hy => ?_⟩, ⟨fun a b hab hb' => ?_⟩⟩
  · rcases hmem y hy with h | rfl
    · exact hB.2.2 y h
    · have := hB.2.2 _ (gd_mem l0 hi)
      exact this
  · rcases hmem y hy with h | rfl
    · exact hF.light y h
    · exact ⟨hx.nodup, hx.short, by simp only [blkOk, Bool.and_eq_true, decide_eq_true_eq]; omega, hx.route, hx.id⟩
  · rw [hlen] at hb'
    have hid : ∀ j, (gd (setF p i r).Lights j l0).Id = (gd p.Lights j l0).Id := fun j => by
      show (gd (p.Lights.set i _) j l0).Id = _
      rw [gd_set]
      split
      · rename_i h; rw [h.1]
      · rfl
    rw [hid, hid]
    exact hI.ids a b hab hb'
theorem step_loop {fu : Nat} (hfu : 2097153 ≤ fu) (p : Plan) (hG : PlanG p) (hit : Bool) : ∀ (fk i : Nat), i ≤ p.Lights.length → p.Lights.length - i < fk →
    (∃ j r, j < p.Lights.length ∧ 0 ≤ r ∧ r < (gd p.Lights j l0).Block.First ∧ spec_l21Step_L1 fu hit p fk i = some (.ret (setF p j r, (gd p.Lights j l0).Id)) ∧ impl_lowered_L1 fu p hit p fk i = some (.ret (setF p j r, (gd p.Lights j l0).Id))) ∨
    (∃ z, spec_l21Step_L1 fu hit p fk i = some (.next z) ∧ impl_lowered_L1 fu p hit p fk i = some (.next z)) := by
  intro fk
  induction fk with
  | zero => intro i _ h; omega
  | succ fk ih =>
    intro i hi hk
    rw [spec_l21Step_L1, impl_lowered_L1]
    have hs := hG.f.short
    by_cases h : i < p.Lights.length
    · have h' : (i : Int) < (p.Lights.length : Int) := by omega
      obtain ⟨r, r1, r2, r3, r4⟩ := lowBoth hfu p hG.b hG.f hG.i h hit
      simp only [h', decide_true, if_true, idx_gd l0 h, Option.bind_some, r1, r2, w64_inc h (show (p.Lights.length : Int) ≤ 9223372036854775807 by omega), Int.toNat_natCast]
      by_cases hr : r < (gd p.Lights i l0).Block.First
      · left
        simp only [hr, decide_true, if_true]
        exact ⟨i, r, h, r3, hr, rfl, rfl⟩
      · simp only [hr, decide_false, Bool.false_eq_true, if_false]
        exact ih (i + 1) h (by omega)
    · obtain rfl : i = p.Lights.length := by omega
      right
      rw [if_neg (by simp), if_neg (by simp)]
      exact ⟨_, rfl, rfl⟩
theorem step_both {fu : Nat} (hfu : 2097153 ≤ fu) (p : Plan) (hG : PlanG p) (hit : Bool) : ∃ w, spec_l21Step fu p hit = some w ∧ impl_lowered fu p hit = some w ∧ (w = (p, 0) ∨ ∃ j r, j < p.Lights.length ∧ 0 ≤ r ∧ r < (gd p.Lights j l0).Block.First ∧ w = (setF p j r, (gd p.Lights j l0).Id)) := by
  unfold spec_l21Step impl_lowered
  rw [l9Own_eq hfu p hG.b, copyPlan_eq hfu p hG.b]
  have hs := hG.f.short
  simp only [Option.bind_some]
  have := step_loop hfu p hG hit fu 0 (by omega) (by omega)
  rw [show ((0 : Nat) : Int) = 0 from rfl] at this
  rcases this with ⟨j, r, h1, h2, h3, h4, h5⟩ | ⟨z, h1, h2⟩
  · rw [h4, h5]
    exact ⟨_, rfl, rfl, .inr ⟨j, r, h1, h2, h3, rfl⟩⟩
  · rw [h1, h2]
    exact ⟨_, rfl, rfl, .inl rfl⟩
end AT
