/- FnChanges, plainly. -/
import Derived.Test.YtiedecncmihbeaaGreatQStart
set_option linter.unusedSimpArgs false
set_option linter.unusedVariables false
namespace AT
theorem ok_chF {c : Change} (h : ChF c) : changeOk c = true := by
  unfold changeOk
  rw [h.ok, Bool.true_and, Bool.and_eq_true, Bool.and_eq_true]
  refine ⟨decide_eq_true h.len, ?_, decide_eq_true h.undo⟩
  cases hb : c.Back
  · rfl
  · rw [h.back hb]; rfl
def stOf (c : Change) : Int := if c.Back = false ∧ c.Actions = [] then 1 else if c.Back = true ∧ c.Undo = [] then 2 else 0
theorem stateOf_eq (fu : Nat) (c : Change) : impl_stateOf fu c = some (stOf c) := by
  obtain ⟨P, A, U, b⟩ := c
  unfold impl_stateOf stOf
  cases b
  · cases A with
    | nil => simp
    | cons a A =>
      have h : (((a :: A).length : Int) == 0) = false := by rw [beq_eq_false_iff_ne, List.length_cons]; omega
      simp only [Bool.not_false, if_true, h, Option.bind_some, Bool.false_eq_true, if_false]
      simp
  · cases U with
    | nil => simp
    | cons a U =>
      have h : (((a :: U).length : Int) == 0) = false := by rw [beq_eq_false_iff_ne, List.length_cons]; omega
      simp only [Bool.not_true, if_true, h, Option.bind_some, Bool.false_eq_true, if_false]
      simp
theorem sub_tail {α : Type} (a : α) (l : List α) : sub (a :: l) 1 ((a :: l).length : Int) = some l := by
  unfold sub
  rw [if_pos ⟨by decide, by rw [List.length_cons]; omega, Int.le_refl _⟩]
  simp
theorem idx_head {α : Type} (a : α) (l : List α) : idx (a :: l) 0 = some a := rfl
theorem stepped_eq {fu : Nat} (hfu : 2097153 ≤ fu) {c : Change} (h : ChF c) : impl_stepped fu c = some (step c) := by
  obtain ⟨P, A, U, b⟩ := c
  obtain ⟨h1, ⟨h2, h3, h4⟩, h5, h6, h7⟩ := h
  simp only at h1 h2 h3 h4 h5 h6 h7
  unfold impl_stepped
  rw [copyChange_eq hfu _ h2 h3 h4]
  cases b with
  | false =>
    cases A with
    | nil => simp [step]
    | cons a l =>
      have hA := h3.2 a (by simp)
      have hl : (((a :: l).length : Int) > 0) = True := eq_true (by rw [List.length_cons]; omega)
      simp only [List.length_cons] at h5
      have ha : app [inv P a] U = some (inv P a :: U) := by rw [app_ok (by simp; omega)]; rfl
      simp only [Option.bind_some, Bool.not_false, if_true, hl, decide_true, idx_head, inverse_eq hfu P a h2 hA, apply_eq hfu P a h2 hA, h1, true_and, sub_tail]
      cases hk : (act P a).2
      · simp [step, hk]
      · simp [step, hk, ha]
  | true =>
    cases U with
    | nil => simp [step]
    | cons a u =>
      have hA := h4.2 a (by simp)
      have hl : (((a :: u).length : Int) > 0) = True := eq_true (by rw [List.length_cons]; omega)
      simp only [Option.bind_some, Bool.not_true, Bool.false_eq_true, if_false, if_true, hl, decide_true, idx_head, apply_eq hfu P a h2 hA, h1, sub_tail]
      rfl
theorem stepChange_eq {fu : Nat} (hfu : 2097153 ≤ fu) {c : Change} (h : ChF c) : impl_StepChange fu c = some (step c, stOf (step c), true) := by
  unfold impl_StepChange
  rw [isValidChange_eq hfu c h.B, ok_chF h]
  simp only [Option.bind_some, Bool.not_true, Bool.false_eq_true, if_false, stepped_eq hfu h, stateOf_eq]
/-- What a round of the law does. -/
def fin (p all : Plan) (n : Nat) (len : Nat) (c : Change) : Option Bool := if stOf c = 1 then (if n = len then some (decide (c.Plan = all)) else some false) else if stOf c = 2 then (if n < len then some (decide (c.Plan = p)) else some false) else none
theorem law_step {fu : Nat} (hfu : 2097153 ≤ fu) {p : Plan} {l : List Action} {q : Plan} {n : Nat} {g : Bool} {fk steps : Nat} {c : Change} (h : ChF c) (hs : steps < 18) :
    laws_FnChanges_L1 fu (p, l) (q, (n : Int), g) (fk + 1) (steps : Int) c.Plan.Network.Nodes c.Plan.Network.Fibers c.Plan.Lights c.Actions c.Undo c.Back =
      (if stOf (step c) = 1 then (if n = l.length then (laws_vPlans fu (step c).Plan q).bind fun y => some (.ret y) else some (.ret false))
       else if stOf (step c) = 2 then (if n < l.length then (laws_vPlans fu (step c).Plan p).bind fun y => some (.ret y) else some (.ret false))
       else laws_FnChanges_L1 fu (p, l) (q, (n : Int), g) fk ((steps + 1 : Nat) : Int) (step c).Plan.Network.Nodes (step c).Plan.Network.Fibers (step c).Plan.Lights (step c).Actions (step c).Undo (step c).Back) := by
  rw [laws_FnChanges_L1]
  have hF := step_F h
  have e1 : ((steps : Int) < 18) = True := eq_true (by omega)
  have e2 : w64 ((steps : Int) + 1) = ((steps + 1 : Nat) : Int) := by rw [w64_in (by omega) (by omega)]; omega
  have e3 : impl_StepChange fu ({ Plan := ({ Network := ({ Nodes := c.Plan.Network.Nodes, Fibers := c.Plan.Network.Fibers } : Network), Lights := c.Plan.Lights } : Plan), Actions := c.Actions, Undo := c.Undo, Back := c.Back } : Change) = some (step c, stOf (step c), true) := stepChange_eq hfu h
  simp only [e1, decide_true, if_true, e3, Option.bind_some, Bool.not_true, Bool.false_eq_true, if_false, isValidChange_eq hfu _ hF.B, ok_chF hF, implPlan_eq hfu _ hF.B.1, hF.ok, e2, beq_iff_eq, decide_eq_true_eq]
  by_cases k1 : stOf (step c) = 1
  · simp only [k1, if_true]
    by_cases k2 : n = l.length
    · have k2' : ((n : Int) = (l.length : Int)) = True := eq_true (by omega)
      simp only [k2', if_true, k2]
      cases laws_vPlans fu (step c).Plan q <;> rfl
    · have k2' : ((n : Int) = (l.length : Int)) = False := eq_false (by omega)
      simp only [k2', if_false, k2]
      rfl
  · simp only [k1, if_false]
    by_cases k3 : stOf (step c) = 2
    · simp only [k3, if_true]
      by_cases k2 : n < l.length
      · have k2' : ((n : Int) < (l.length : Int)) = True := eq_true (by omega)
        simp only [k2', if_true, k2]
        cases laws_vPlans fu (step c).Plan p <;> rfl
      · have k2' : ((n : Int) < (l.length : Int)) = False := eq_false (by omega)
        simp only [k2', if_false, k2]
        rfl
    · simp only [k3, if_false]
theorem law_back {fu : Nat} (hfu : 2097153 ≤ fu) {p : Plan} {l : List Action} {q : Plan} {n : Nat} {g : Bool} (hp : PlanB p) (hn : n < l.length) : ∀ (fk steps : Nat) (c : Change), ChF c → c.Back = true → c.Undo ≠ [] → (acts c.Undo c.Plan).1 = p → steps + c.Undo.length ≤ 18 → c.Undo.length < fk →
    laws_FnChanges_L1 fu (p, l) (q, (n : Int), g) fk (steps : Int) c.Plan.Network.Nodes c.Plan.Network.Fibers c.Plan.Lights c.Actions c.Undo c.Back = some (.ret true) := by
  intro fk
  induction fk with
  | zero => intro _ _ _ _ _ _ _ h; omega
  | succ fk ih =>
    intro steps c h hb hu hq hs hf
    have hul : 0 < c.Undo.length := List.length_pos_iff.2 hu
    rw [law_step hfu h (by omega)]
    have hF := step_F h
    obtain ⟨P, A, U, b⟩ := c
    simp only at hb hu hq hs hf hul
    subst hb
    cases U with
    | nil => exact absurd rfl hu
    | cons a u =>
      obtain ⟨g1, g2⟩ := acts_cons h.undo
      simp only at g1 g2
      have e : step ⟨P, A, a :: u, true⟩ = ⟨(act P a).1, A, u, true⟩ := rfl
      rw [e] at hF ⊢
      have hq' : (acts u (act P a).1).1 = p := by
        have : acts (a :: u) P = ((acts u (act P a).1).1, (acts u (act P a).1).2 + 1) := by
          show (if (act P a).2 = true then _ else _) = _
          rw [if_pos g1]
        rw [this] at hq
        exact hq
      cases u with
      | nil =>
        have hq2 : (act P a).1 = p := hq'
        have e1 : stOf ⟨(act P a).1, A, [], true⟩ = 2 := by simp [stOf]
        rw [e1, if_neg (by decide), if_pos rfl, if_pos hn, hq2, vPlans_self hfu p hp]
        rfl
      | cons x u =>
        have e1 : stOf ⟨(act P a).1, A, x :: u, true⟩ = 0 := by simp [stOf]
        rw [e1, if_neg (by decide), if_neg (by decide)]
        exact ih (steps + 1) ⟨(act P a).1, A, x :: u, true⟩ hF rfl (by simp) hq' (by simp only [List.length_cons] at hs ⊢; omega) (by simp only [List.length_cons] at hf ⊢; omega)
theorem law_fwd {fu : Nat} (hfu : 2097153 ≤ fu) {p : Plan} {l : List Action} {q : Plan} {n : Nat} {g : Bool} (hp : PlanB p) (hql : n = l.length → q = (acts l p).1) (hl : l.length ≤ 8) : ∀ (fk k : Nat) (c : Change), ChF c → c.Back = false → c.Undo.length = k → (acts c.Undo c.Plan).1 = p → c.Actions.length + k = l.length → (acts c.Actions c.Plan).1 = (acts l p).1 → (acts c.Actions c.Plan).2 + k = n → 30 - k < fk →
    laws_FnChanges_L1 fu (p, l) (q, (n : Int), g) fk (k : Int) c.Plan.Network.Nodes c.Plan.Network.Fibers c.Plan.Lights c.Actions c.Undo c.Back = some (.ret true) := by
  intro fk
  induction fk with
  | zero => intro _ _ _ _ _ _ _ _ _ h; omega
  | succ fk ih =>
    intro k c h hb hu hq hal ha1 ha2 hf
    rw [law_step hfu h (by omega)]
    have hF := step_F h
    obtain ⟨P, A, U, b⟩ := c
    simp only at hb hu hq hal ha1 ha2
    subst hb
    cases A with
    | nil =>
      have e : step ⟨P, [], U, false⟩ = ⟨P, [], U, false⟩ := rfl
      rw [e]
      have e1 : stOf ⟨P, [], U, false⟩ = 1 := by simp [stOf]
      have hn : n = l.length := by
        have : (acts [] P).2 = 0 := rfl
        simp only [List.length_nil] at hal
        omega
      have hqe : q = P := by rw [hql hn, ← ha1]; rfl
      rw [e1, if_pos rfl, if_pos hn, hqe, vPlans_self hfu P h.B.1]
      rfl
    | cons a t =>
      by_cases hk : (act P a).2 = true
      · have e : step ⟨P, a :: t, U, false⟩ = ⟨(act P a).1, t, inv P a :: U, false⟩ := by
          show (if (act P a).2 = true then _ else _) = _
          rw [if_pos hk]
        rw [e] at hF ⊢
        have hca : acts (a :: t) P = ((acts t (act P a).1).1, (acts t (act P a).1).2 + 1) := by
          show (if (act P a).2 = true then _ else _) = _
          rw [if_pos hk]
        rw [hca] at ha1 ha2
        have hinv : (acts (inv P a :: U) (act P a).1).1 = p := by
          have : acts (inv P a :: U) (act P a).1 = ((acts U P).1, (acts U P).2 + 1) := by
            show (if (act (act P a).1 (inv P a)).2 = true then _ else _) = _
            rw [act_inv h.ok hk, if_pos rfl]
          rw [this]; exact hq
        cases t with
        | nil =>
          have e1 : stOf ⟨(act P a).1, [], inv P a :: U, false⟩ = 1 := by simp [stOf]
          have hn : n = l.length := by
            have : (acts [] (act P a).1).2 = 0 := rfl
            simp only [List.length_cons, List.length_nil] at hal
            omega
          have hqe : q = (act P a).1 := by rw [hql hn, ← ha1]; rfl
          rw [e1, if_pos rfl, if_pos hn, hqe, vPlans_self hfu _ hF.B.1]
          rfl
        | cons x t =>
          have e1 : stOf ⟨(act P a).1, x :: t, inv P a :: U, false⟩ = 0 := by simp [stOf]
          rw [e1, if_neg (by decide), if_neg (by decide)]
          simp only [List.length_cons] at hal
          exact ih (k + 1) ⟨(act P a).1, x :: t, inv P a :: U, false⟩ hF rfl (by simp only [List.length_cons]; omega) hinv (by simp only [List.length_cons]; omega) ha1 (by show (acts (x :: t) (act P a).1).2 + (k + 1) = n; omega) (by omega)
      · have e : step ⟨P, a :: t, U, false⟩ = ⟨P, [], U, true⟩ := by
          show (if (act P a).2 = true then _ else _) = _
          rw [if_neg hk]
        rw [e] at hF ⊢
        have hca : acts (a :: t) P = (P, 0) := by
          show (if (act P a).2 = true then _ else _) = _
          rw [if_neg hk]
        rw [hca] at ha2
        simp only [List.length_cons] at hal
        have hn : n < l.length := by omega
        cases U with
        | nil =>
          have hq2 : P = p := hq
          have e1 : stOf ⟨P, [], [], true⟩ = 2 := by simp [stOf]
          rw [e1, if_neg (by decide), if_pos rfl, if_pos hn, hq2, vPlans_self hfu p hp]
          rfl
        | cons x u =>
          have e1 : stOf ⟨P, [], x :: u, true⟩ = 0 := by simp [stOf]
          rw [e1, if_neg (by decide), if_neg (by decide)]
          exact law_back hfu hp hn fk (k + 1) ⟨P, [], x :: u, true⟩ hF rfl (by simp) hq (by simp only; omega) (by simp only; omega)
theorem FnChanges_true (x0 : List By) (o0 : ok_ByS x0) : ∃ fu, laws_FnChanges fu x0 = some true := by
  obtain ⟨fu, hfu⟩ : ∃ fu, 2097153 ≤ fu := ⟨2097153, Nat.le_refl _⟩
  refine ⟨fu, ?_⟩
  unfold laws_FnChanges laws_vBig
  by_cases hb : (x0.length : Int) > 65536
  · simp only [hb, decide_true, Option.bind_some, if_true]
  simp only [hb, decide_false, Option.bind_some, Bool.false_eq_true, if_false]
  have hc : Cur ⟨x0, 0, ⟨0⟩⟩ 0 := start_cur o0.1 (by omega)
  obtain ⟨p, l, g2, h3, h4, h5⟩ := drawActions hfu hc
  have hB := h3.B
  have hA : ActsB l := ⟨by omega, fun x hx => by have := h5 x hx; omega⟩
  have d2 : spec_DrawStartChange fu x0 = some (p, l) := by unfold spec_DrawStartChange; rw [g2]; rfl
  simp only [d2, Option.bind_some, implStart_eq hfu p l hB hA, specStart_eq hfu p l hB hA, bne_self_eq_false, Bool.false_eq_true, if_false]
  by_cases hk : planOk p = true ∧ l.length ≤ 8
  · obtain ⟨hp, hl⟩ := hk
    have hC : ChF ⟨p, l, [], false⟩ := ⟨hp, ⟨hB, hA, ⟨by simp, by simp⟩⟩, (by simpa using hl), fun h => (by cases h), rfl⟩
    have hle := acts_le l p
    simp only [hp, hl, and_self, if_true, Bool.not_true, Bool.false_eq_true, if_false, applyActions_eq hfu p l hB hA]
    by_cases hn : (acts l p).2 < l.length
    · have hn' : ((((acts l p).2 : Nat) : Int) < (l.length : Int)) = True := eq_true (by omega)
      have hz := law_fwd hfu (p := p) (l := l) (q := p) (n := (acts l p).2) (g := true) hB (fun h => by omega) hl fu 0 ⟨p, l, [], false⟩ hC rfl rfl rfl rfl rfl rfl (by omega)
      rw [Int.ofNat_zero] at hz
      simp only at hz
      simp only [hn, if_true, Option.bind_some, Bool.not_true, Bool.false_eq_true, if_false, hn', decide_true, vPlans_self hfu p hB, hz]
      rfl
    · have hn' : ((((acts l p).2 : Nat) : Int) < (l.length : Int)) = False := eq_false (by omega)
      have hz := law_fwd hfu (p := p) (l := l) (q := (acts l p).1) (n := (acts l p).2) (g := true) hB (fun h => rfl) hl fu 0 ⟨p, l, [], false⟩ hC rfl rfl rfl rfl rfl rfl (by omega)
      rw [Int.ofNat_zero] at hz
      simp only at hz
      simp only [hn, if_false, Option.bind_some, Bool.not_true, Bool.false_eq_true, hn', decide_false, hz]
      rfl
  · simp only [hk, if_false, Bool.not_false, if_true]
    rfl
end AT
