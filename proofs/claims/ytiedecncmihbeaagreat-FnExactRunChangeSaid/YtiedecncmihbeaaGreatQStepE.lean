/- The action that takes an action back, and the steps of a change, plainly. -/
import Derived.Test.YtiedecncmihbeaaGreatQValid
set_option linter.unusedSimpArgs false
set_option linter.unusedVariables false
namespace AT
def inv (p : Plan) (a : Action) : Action := if a.Kind = 1 then ⟨2, a.Light⟩ else if a.Kind = 2 then ⟨1, a.Light⟩ else ⟨3, gd p.Lights (atId p.Lights a.Light.Id) l0⟩
theorem gd_putL (L : List Light) (x : Light) : gd (putL L x) (insAt L x.Id) l0 = x := by
  have h := insAt_le L x.Id
  unfold putL gd
  rw [List.getElem?_append_right (by rw [List.length_take]; omega), List.length_take, Nat.min_eq_left h, Nat.sub_self]
  rfl
theorem putL_erase (L : List Light) (x : Light) : (putL L x).eraseIdx (insAt L x.Id) = L := by
  have h := insAt_le L x.Id
  unfold putL
  rw [List.eraseIdx_append_of_length_le (by rw [List.length_take]; omega), List.length_take, Nat.min_eq_left h, Nat.sub_self, List.eraseIdx_cons_zero, List.take_append_drop]
theorem has_put (p : Plan) (x : Light) : has_ (addP p x) x.Id = true := by
  unfold has_ addP
  rw [List.any_eq_true]
  exact ⟨x, putL_mem.2 (.inl rfl), by simp⟩
theorem set_gd (L : List Light) (i : Nat) (h : i < L.length) : L.set i (gd L i l0) = L := by
  rw [gd_in l0 h, List.set_getElem_self]
theorem act_inv {p : Plan} {a : Action} (hp : planOk p = true) (h : (act p a).2 = true) : act (act p a).1 (inv p a) = (p, true) := by
  have hI := (planI hp).ids
  have hq := act_ok hp h
  by_cases k1 : a.Kind = 1
  · have e : act p a = (addP p a.Light, true) := by
      unfold act at h ⊢
      rw [if_pos k1] at h ⊢
      by_cases g : planOk (addP p a.Light) = true
      · rw [if_pos g]
      · rw [if_neg g] at h; cases h
    rw [e] at hq ⊢
    have hJ := (planI hq).ids
    have hlt : insAt p.Lights a.Light.Id < (putL p.Lights a.Light).length := by have := insAt_le p.Lights a.Light.Id; rw [putL_len]; omega
    have hat : atId (putL p.Lights a.Light) a.Light.Id = insAt p.Lights a.Light.Id := by
      have := atId_eq (L := putL p.Lights a.Light) hJ hlt
      rw [gd_putL] at this
      exact this
    unfold inv
    rw [if_pos k1]
    unfold act
    rw [if_neg (by show ¬(2 : Int) = 1; decide), if_pos rfl]
    have e3 : (addP p a.Light).Lights = putL p.Lights a.Light := rfl
    rw [if_pos ⟨has_put p a.Light, by show gd (addP p a.Light).Lights (atId (addP p a.Light).Lights a.Light.Id) l0 = a.Light; rw [e3, hat, gd_putL]⟩]
    show (delP (addP p a.Light) (atId (addP p a.Light).Lights a.Light.Id), true) = _
    rw [e3, hat]
    unfold delP
    rw [e3, putL_erase]
    rfl
  · by_cases k2 : a.Kind = 2
    · have e : (has_ p a.Light.Id = true ∧ gd p.Lights (atId p.Lights a.Light.Id) l0 = a.Light) ∧ act p a = (delP p (atId p.Lights a.Light.Id), true) := by
        unfold act at h ⊢
        rw [if_neg k1, if_pos k2] at h ⊢
        by_cases g : has_ p a.Light.Id = true ∧ gd p.Lights (atId p.Lights a.Light.Id) l0 = a.Light
        · rw [if_pos g]; exact ⟨g, rfl⟩
        · rw [if_neg g] at h; cases h
      obtain ⟨⟨g1, g2⟩, e⟩ := e
      have hlt := atId_lt g1
      have back : addP (delP p (atId p.Lights a.Light.Id)) a.Light = p := by
        unfold addP delP
        show ({ Network := p.Network, Lights := putL (p.Lights.eraseIdx (atId p.Lights a.Light.Id)) a.Light } : Plan) = p
        rw [put_erase hI hlt (by rw [g2])]
        have := set_gd p.Lights _ hlt
        rw [g2] at this
        rw [this]
      rw [e]
      unfold inv
      rw [if_neg k1, if_pos k2]
      unfold act
      rw [if_pos rfl]
      show (if planOk (addP (delP p (atId p.Lights a.Light.Id)) a.Light) = true then _ else _) = _
      rw [back, if_pos hp]
    · have k3 : a.Kind = 3 := by
        unfold act at h
        rw [if_neg k1, if_neg k2] at h
        by_cases k : a.Kind = 3
        · exact k
        · rw [if_neg k] at h; cases h
      obtain ⟨g1, g2, g3⟩ := act_move k3 h
      have hlt := atId_lt g1
      have hid := atId_gd g1
      have hJ := (planI g2).ids
      have e3 : (setP p (atId p.Lights a.Light.Id) a.Light).Lights = p.Lights.set (atId p.Lights a.Light.Id) a.Light := rfl
      have hlt2 : atId p.Lights a.Light.Id < (p.Lights.set (atId p.Lights a.Light.Id) a.Light).length := by rw [List.length_set]; exact hlt
      have hat : atId (p.Lights.set (atId p.Lights a.Light.Id) a.Light) a.Light.Id = atId p.Lights a.Light.Id := by
        have := atId_eq (L := p.Lights.set (atId p.Lights a.Light.Id) a.Light) hJ (i := atId p.Lights a.Light.Id) hlt2
        rw [gd_set, if_pos ⟨rfl, hlt⟩] at this
        exact this
      have hh : has_ (setP p (atId p.Lights a.Light.Id) a.Light) a.Light.Id = true := by
        unfold has_
        rw [e3, List.any_eq_true]
        exact ⟨a.Light, List.mem_set hlt _, by simp⟩
      have back : setP (setP p (atId p.Lights a.Light.Id) a.Light) (atId p.Lights a.Light.Id) (gd p.Lights (atId p.Lights a.Light.Id) l0) = p := by
        unfold setP
        show ({ Network := p.Network, Lights := (p.Lights.set (atId p.Lights a.Light.Id) a.Light).set (atId p.Lights a.Light.Id) (gd p.Lights (atId p.Lights a.Light.Id) l0) } : Plan) = p
        rw [List.set_set, set_gd p.Lights _ hlt]
      rw [g3]
      unfold inv
      rw [if_neg k1, if_neg k2]
      unfold act
      rw [if_neg (by show ¬(3 : Int) = 1; decide), if_neg (by show ¬(3 : Int) = 2; decide), if_pos rfl]
      show (if has_ (setP p (atId p.Lights a.Light.Id) a.Light) (gd p.Lights (atId p.Lights a.Light.Id) l0).Id = true ∧ planOk (setP (setP p (atId p.Lights a.Light.Id) a.Light) (atId (setP p (atId p.Lights a.Light.Id) a.Light).Lights (gd p.Lights (atId p.Lights a.Light.Id) l0).Id) (gd p.Lights (atId p.Lights a.Light.Id) l0)) = true then (setP (setP p (atId p.Lights a.Light.Id) a.Light) (atId (setP p (atId p.Lights a.Light.Id) a.Light).Lights (gd p.Lights (atId p.Lights a.Light.Id) l0).Id) (gd p.Lights (atId p.Lights a.Light.Id) l0), true) else _) = _
      rw [hid, e3, hat, back, if_pos ⟨hh, hp⟩]
theorem inv_len {p : Plan} {a : Action} (hB : PlanB p) (ha : a.Light.Route.Fibers.length ≤ 2097152) (h : (act p a).2 = true) : (inv p a).Light.Route.Fibers.length ≤ 2097152 := by
  unfold inv
  split
  · exact ha
  · split
    · exact ha
    · rename_i k1 k2
      have k3 : a.Kind = 3 := by
        unfold act at h
        rw [if_neg k1, if_neg k2] at h
        by_cases k : a.Kind = 3
        · exact k
        · rw [if_neg k] at h; cases h
      exact hB.2.2 _ (gd_mem l0 (atId_lt (act_move k3 h).1))
def step (c : Change) : Change :=
  match c.Back, c.Actions, c.Undo with
  | false, a :: l, u => if (act c.Plan a).2 = true then ⟨(act c.Plan a).1, l, inv c.Plan a :: u, false⟩ else ⟨c.Plan, [], u, true⟩
  | true, l, a :: u => ⟨(act c.Plan a).1, l, u, true⟩
  | _, _, _ => c
structure ChF (c : Change) : Prop where
  ok : planOk c.Plan = true
  B : ChangeB c
  len : c.Actions.length + c.Undo.length ≤ 8
  back : c.Back = true → c.Actions = []
  undo : (acts c.Undo c.Plan).2 = c.Undo.length
theorem chF {c : Change} (hB : ChangeB c) (h : changeOk c = true) : ChF c := by
  unfold changeOk at h
  simp only [Bool.and_eq_true, decide_eq_true_eq, Bool.not_eq_true', Bool.and_eq_false_imp, decide_eq_false_iff_not] at h
  obtain ⟨h1, h2, h3, h4⟩ := h
  refine ⟨h1, hB, h2, fun hb => ?_, h4⟩
  have := h3 hb
  exact List.length_eq_zero_iff.1 (by omega)
theorem acts_cons {a : Action} {l : List Action} {p : Plan} (h : (acts (a :: l) p).2 = (a :: l).length) : (act p a).2 = true ∧ (acts l (act p a).1).2 = l.length := by
  unfold acts at h
  by_cases g : (act p a).2 = true
  · rw [if_pos g] at h
    simp only [List.length_cons] at h
    exact ⟨g, by omega⟩
  · rw [if_neg g] at h
    simp at h
theorem step_F {c : Change} (h : ChF c) : ChF (step c) := by
  obtain ⟨P, A, U, b⟩ := c
  obtain ⟨h1, ⟨h2, h3, h4⟩, h5, h6, h7⟩ := h
  simp only at h1 h2 h3 h4 h5 h6 h7
  cases b with
  | false =>
    cases A with
    | nil => exact ⟨h1, ⟨h2, h3, h4⟩, h5, h6, h7⟩
    | cons a l =>
      have ha := h3.2 a (by simp)
      show ChF (if (act P a).2 = true then ⟨(act P a).1, l, inv P a :: U, false⟩ else ⟨P, [], U, true⟩)
      simp only [List.length_cons] at h5
      by_cases g : (act P a).2 = true
      · rw [if_pos g]
        refine ⟨act_ok h1 g, ⟨act_B h2 h1 ha g, ⟨(by show l.length ≤ 2097152; omega), fun x hx => h3.2 x (by simp [hx])⟩, ⟨(by show (inv P a :: U).length ≤ 2097152; rw [List.length_cons]; omega), fun x hx => ?_⟩⟩, (by show l.length + (inv P a :: U).length ≤ 8; rw [List.length_cons]; omega), fun hb => (by cases hb), ?_⟩
        · rcases List.mem_cons.1 hx with rfl | hx
          · exact inv_len h2 ha g
          · exact h4.2 x hx
        · show (acts (inv P a :: U) (act P a).1).2 = (inv P a :: U).length
          unfold acts
          rw [act_inv h1 g, if_pos rfl, List.length_cons]
          show (acts U P).2 + 1 = _
          rw [h7]
      · rw [if_neg g]
        exact ⟨h1, ⟨h2, ⟨by simp, by simp⟩, h4⟩, (by show 0 + U.length ≤ 8; omega), fun _ => rfl, h7⟩
  | true =>
    cases U with
    | nil => exact ⟨h1, ⟨h2, h3, h4⟩, h5, h6, h7⟩
    | cons a u =>
      obtain ⟨g1, g2⟩ := acts_cons h7
      have ha := h4.2 a (by simp)
      simp only [List.length_cons] at h5
      show ChF ⟨(act P a).1, A, u, true⟩
      have k1 : u.length ≤ 2097152 := by omega
      have k2 : A.length + u.length ≤ 8 := by omega
      exact ⟨act_ok h1 g1, ⟨act_B h2 h1 ha g1, h3, ⟨k1, fun x hx => h4.2 x (by simp [hx])⟩⟩, k2, h6, g2⟩
end AT

namespace AT
theorem act_kind {p : Plan} {a : Action} (h : (act p a).2 = true) (k1 : ¬a.Kind = 1) (k2 : ¬a.Kind = 2) : a.Kind = 3 := by
  unfold act at h
  rw [if_neg k1, if_neg k2] at h
  by_cases k : a.Kind = 3
  · exact k
  · rw [if_neg k] at h; cases h
theorem l20Inverse_eq {fu : Nat} (hfu : 2097153 ≤ fu) (p : Plan) (a : Action) (hB : PlanB p) (ha : a.Light.Route.Fibers.length ≤ 2097152) (h : (act p a).2 = true) : spec_l20Inverse fu p a = some (inv p a) := by
  have hl := hB.2.1
  unfold spec_l20Inverse inv
  by_cases k1 : a.Kind = 1
  · simp only [k1, beq_self_eq_true, if_true, l9Copy_eq fu _ ha, Option.bind_some]
  · have e1 : (a.Kind == 1) = false := by rw [beq_eq_false_iff_ne]; exact k1
    rw [e1, if_neg Bool.false_ne_true, if_neg k1]
    by_cases k2 : a.Kind = 2
    · simp only [k2, beq_self_eq_true, if_true, l9Copy_eq fu _ ha, Option.bind_some]
    · have e2 : (a.Kind == 2) = false := by rw [beq_eq_false_iff_ne]; exact k2
      rw [e2, if_neg Bool.false_ne_true, if_neg k2]
      obtain ⟨g1, g2, g3⟩ := act_move (act_kind h k1 k2) h
      have hi := atId_lt g1
      have g1' : (p.Lights.any fun y => y.Id == a.Light.Id) = true := g1
      rw [l9Find_eq p _ (by omega) hl]
      simp only [g1', if_true, Option.bind_some, idx_gd l0 hi, l9Copy_eq fu _ (hB.2.2 _ (gd_mem l0 hi))]
def zeroA : Action := ⟨0, ⟨0, ⟨0, []⟩, ⟨0, 0⟩⟩⟩
theorem inverse_eq {fu : Nat} (hfu : 2097153 ≤ fu) (p : Plan) (a : Action) (hB : PlanB p) (ha : a.Light.Route.Fibers.length ≤ 2097152) : impl_InverseAction fu p a = some (if planOk p = true ∧ (act p a).2 = true then (inv p a, true) else (zeroA, false)) := by
  have hl := hB.2.1
  unfold impl_InverseAction
  rw [apply_eq hfu p a hB ha]
  cases hp : planOk p
  · rfl
  cases h : (act p a).2
  · simp only [Option.bind_some, if_true, h, Bool.not_false, Bool.false_eq_true, and_false, if_false]
    rfl
  simp only [Option.bind_some, if_true, h, Bool.not_true, Bool.false_eq_true, if_false, and_self]
  unfold inv
  by_cases k1 : a.Kind = 1
  · simp only [k1, beq_self_eq_true, if_true, copyLight_eq fu _ ha, Option.bind_some]
  · have e1 : (a.Kind == 1) = false := by rw [beq_eq_false_iff_ne]; exact k1
    rw [e1, if_neg Bool.false_ne_true, if_neg k1]
    by_cases k2 : a.Kind = 2
    · simp only [k2, beq_self_eq_true, if_true, copyLight_eq fu _ ha, Option.bind_some]
    · have e2 : (a.Kind == 2) = false := by rw [beq_eq_false_iff_ne]; exact k2
      rw [e2, if_neg Bool.false_ne_true, if_neg k2]
      obtain ⟨g1, g2, g3⟩ := act_move (act_kind h k1 k2) h
      have hi := atId_lt g1
      have g1' : (p.Lights.any fun y => y.Id == a.Light.Id) = true := g1
      rw [lightAt_eq p _ (by omega) hl]
      simp only [g1', if_true, Option.bind_some, idx_gd l0 hi, copyLight_eq fu _ (hB.2.2 _ (gd_mem l0 hi))]
end AT

namespace AT
def stOf (c : Change) : Int := if c.Back = false ∧ c.Actions = [] then 1 else if c.Back = true ∧ c.Undo = [] then 2 else 0
theorem stateOf_eq (fu : Nat) (c : Change) : impl_stateOf fu c = some (stOf c) := by
  obtain ⟨P, A, U, b⟩ := c
  unfold impl_stateOf stOf
  cases b
  · cases A with
    | nil => simp
    | cons a A =>
      have h : (((a :: A).length : Int) == 0) = false := by rw [beq_eq_false_iff_ne, List.length_cons]; omega
      simp only [Bool.not_false, if_true, h, Option.bind_some, Bool.false_eq_true, if_false]
      simp
  · cases U with
    | nil => simp
    | cons a U =>
      have h : (((a :: U).length : Int) == 0) = false := by rw [beq_eq_false_iff_ne, List.length_cons]; omega
      simp only [Bool.not_true, if_true, h, Option.bind_some, Bool.false_eq_true, if_false]
      simp
theorem sub_tail {α : Type} (a : α) (l : List α) : sub (a :: l) 1 ((a :: l).length : Int) = some l := by
  unfold sub
  rw [if_pos ⟨by decide, by rw [List.length_cons]; omega, Int.le_refl _⟩]
  simp
theorem idx_head {α : Type} (a : α) (l : List α) : idx (a :: l) 0 = some a := rfl
theorem stepped_eq {fu : Nat} (hfu : 2097153 ≤ fu) {c : Change} (h : ChF c) : impl_stepped fu c = some (step c) := by
  obtain ⟨P, A, U, b⟩ := c
  obtain ⟨h1, ⟨h2, h3, h4⟩, h5, h6, h7⟩ := h
  simp only at h1 h2 h3 h4 h5 h6 h7
  unfold impl_stepped
  rw [copyChange_eq hfu _ h2 h3 h4]
  cases b with
  | false =>
    cases A with
    | nil => simp [step]
    | cons a l =>
      have hA := h3.2 a (by simp)
      have hl : (((a :: l).length : Int) > 0) = True := eq_true (by rw [List.length_cons]; omega)
      simp only [List.length_cons] at h5
      have ha : app [inv P a] U = some (inv P a :: U) := by rw [app_ok (by simp; omega)]; rfl
      simp only [Option.bind_some, Bool.not_false, if_true, hl, decide_true, idx_head, inverse_eq hfu P a h2 hA, apply_eq hfu P a h2 hA, h1, true_and, sub_tail]
      cases hk : (act P a).2
      · simp [step, hk]
      · simp [step, hk, ha]
  | true =>
    cases U with
    | nil => simp [step]
    | cons a u =>
      have hA := h4.2 a (by simp)
      have hl : (((a :: u).length : Int) > 0) = True := eq_true (by rw [List.length_cons]; omega)
      simp only [Option.bind_some, Bool.not_true, Bool.false_eq_true, if_false, if_true, hl, decide_true, idx_head, apply_eq hfu P a h2 hA, h1, sub_tail]
      rfl
theorem l20State_eq (fu : Nat) (c : Change) : spec_l20State fu c = some (stOf c) := by
  have e : spec_l20State fu c = impl_stateOf fu c := rfl
  rw [e, stateOf_eq]
theorem l20Step_eq {fu : Nat} (hfu : 2097153 ≤ fu) {c : Change} (h : ChF c) : spec_l20Step fu c = some (step c) := by
  obtain ⟨P, A, U, b⟩ := c
  obtain ⟨h1, ⟨h2, h3, h4⟩, h5, h6, h7⟩ := h
  simp only at h1 h2 h3 h4 h5 h6 h7
  unfold spec_l20Step
  rw [l9Own_eq hfu _ h2, l20Copies_eq hfu _ h3, l20Copies_eq hfu _ h4]
  cases b with
  | false =>
    cases A with
    | nil => simp [step]
    | cons a l =>
      have hA := h3.2 a (by simp)
      have hl : (((a :: l).length : Int) > 0) = True := eq_true (by rw [List.length_cons]; omega)
      simp only [List.length_cons] at h5
      have ha : app [inv P a] U = some (inv P a :: U) := by rw [app_ok (by simp; omega)]; rfl
      simp only [Option.bind_some, Bool.not_false, if_true, hl, decide_true, idx_head, l20Apply_eq hfu P a h2 h1 hA, sub_tail]
      cases hk : (act P a).2
      · simp [step, hk]
      · rw [l20Inverse_eq hfu P a h2 hA hk]
        simp [step, hk, ha]
  | true =>
    cases U with
    | nil => simp [step]
    | cons a u =>
      have hA := h4.2 a (by simp)
      have hl : (((a :: u).length : Int) > 0) = True := eq_true (by rw [List.length_cons]; omega)
      simp only [Option.bind_some, Bool.not_true, Bool.false_eq_true, if_false, if_true, hl, decide_true, idx_head, l20Apply_eq hfu P a h2 h1 hA, sub_tail]
      rfl
end AT
