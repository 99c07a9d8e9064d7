/- The program's and the reference's inverse of an action are one. -/
import Derived.Test.YtiedecncmihbeaaGreatQInv
set_option linter.unusedSimpArgs false
set_option linter.unusedVariables false
namespace AT
theorem act_kind {p : Plan} {a : Action} (h : (act p a).2 = true) (k1 : ¬a.Kind = 1) (k2 : ¬a.Kind = 2) : a.Kind = 3 := by
  unfold act at h
  rw [if_neg k1, if_neg k2] at h
  by_cases k : a.Kind = 3
  · exact k
  · rw [if_neg k] at h; cases h
theorem l20Inverse_eq {fu : Nat} (hfu : 2097153 ≤ fu) (p : Plan) (a : Action) (hB : PlanB p) (ha : a.Light.Route.Fibers.length ≤ 2097152) (h : (act p a).2 = true) : spec_l20Inverse fu p a = some (inv p a) := by
  have hl := hB.2.1
  unfold spec_l20Inverse inv
  by_cases k1 : a.Kind = 1
  · simp only [k1, beq_self_eq_true, if_true, l9Copy_eq fu _ ha, Option.bind_some]
  · have e1 : (a.Kind == 1) = false := by rw [beq_eq_false_iff_ne]; exact k1
    rw [e1, if_neg Bool.false_ne_true, if_neg k1]
    by_cases k2 : a.Kind = 2
    · simp only [k2, beq_self_eq_true, if_true, l9Copy_eq fu _ ha, Option.bind_some]
    · have e2 : (a.Kind == 2) = false := by rw [beq_eq_false_iff_ne]; exact k2
      rw [e2, if_neg Bool.false_ne_true, if_neg k2]
      obtain ⟨g1, g2, g3⟩ := act_move (act_kind h k1 k2) h
      have hi := atId_lt g1
      have g1' : (p.Lights.any fun y => y.Id == a.Light.Id) = true := g1
      rw [l9Find_eq p _ (by omega) hl]
      simp only [g1', if_true, Option.bind_some, idx_gd l0 hi, l9Copy_eq fu _ (hB.2.2 _ (gd_mem l0 hi))]
def zeroA : Action := ⟨0, ⟨0, ⟨0, []⟩, ⟨0, 0⟩⟩⟩
theorem inverse_eq {fu : Nat} (hfu : 2097153 ≤ fu) (p : Plan) (a : Action) (hB : PlanB p) (ha : a.Light.Route.Fibers.length ≤ 2097152) : impl_InverseAction fu p a = some (if planOk p = true ∧ (act p a).2 = true then (inv p a, true) else (zeroA, false)) := by
  have hl := hB.2.1
  unfold impl_InverseAction
  rw [apply_eq hfu p a hB ha]
  cases hp : planOk p
  · rfl
  cases h : (act p a).2
  · simp only [Option.bind_some, if_true, h, Bool.not_false, Bool.false_eq_true, and_false, if_false]
    rfl
  simp only [Option.bind_some, if_true, h, Bool.not_true, Bool.false_eq_true, if_false, and_self]
  unfold inv
  by_cases k1 : a.Kind = 1
  · simp only [k1, beq_self_eq_true, if_true, copyLight_eq fu _ ha, Option.bind_some]
  · have e1 : (a.Kind == 1) = false := by rw [beq_eq_false_iff_ne]; exact k1
    rw [e1, if_neg Bool.false_ne_true, if_neg k1]
    by_cases k2 : a.Kind = 2
    · simp only [k2, beq_self_eq_true, if_true, copyLight_eq fu _ ha, Option.bind_some]
    · have e2 : (a.Kind == 2) = false := by rw [beq_eq_false_iff_ne]; exact k2
      rw [e2, if_neg Bool.false_ne_true, if_neg k2]
      obtain ⟨g1, g2, g3⟩ := act_move (act_kind h k1 k2) h
      have hi := atId_lt g1
      have g1' : (p.Lights.any fun y => y.Id == a.Light.Id) = true := g1
      rw [lightAt_eq p _ (by omega) hl]
      simp only [g1', if_true, Option.bind_some, idx_gd l0 hi, copyLight_eq fu _ (hB.2.2 _ (gd_mem l0 hi))]
end AT

namespace AT
def stOf (c : Change) : Int := if c.Back = false ∧ c.Actions = [] then 1 else if c.Back = true ∧ c.Undo = [] then 2 else 0
theorem stateOf_eq (fu : Nat) (c : Change) : impl_stateOf fu c = some (stOf c) := by
  obtain ⟨P, A, U, b⟩ := c
  unfold impl_stateOf stOf
  cases b
  · cases A with
    | nil => simp
    | cons a A =>
      have h : (((a :: A).length : Int) == 0) = false := by rw [beq_eq_false_iff_ne, List.length_cons]; omega
      simp only [Bool.not_false, if_true, h, Option.bind_some, Bool.false_eq_true, if_false]
      simp
  · cases U with
    | nil => simp
    | cons a U =>
      have h : (((a :: U).length : Int) == 0) = false := by rw [beq_eq_false_iff_ne, List.length_cons]; omega
      simp only [Bool.not_true, if_true, h, Option.bind_some, Bool.false_eq_true, if_false]
      simp
theorem sub_tail {α : Type} (a : α) (l : List α) : sub (a :: l) 1 ((a :: l).length : Int) = some l := by
  unfold sub
  rw [if_pos ⟨by decide, by rw [List.length_cons]; omega, Int.le_refl _⟩]
  simp
theorem idx_head {α : Type} (a : α) (l : List α) : idx (a :: l) 0 = some a := rfl
theorem stepped_eq {fu : Nat} (hfu : 2097153 ≤ fu) {c : Change} (h : ChF c) : impl_stepped fu c = some (step c) := by
  obtain ⟨P, A, U, b⟩ := c
  obtain ⟨h1, ⟨h2, h3, h4⟩, h5, h6, h7⟩ := h
  simp only at h1 h2 h3 h4 h5 h6 h7
  unfold impl_stepped
  rw [copyChange_eq hfu _ h2 h3 h4]
  cases b with
  | false =>
    cases A with
    | nil => simp [step]
    | cons a l =>
      have hA := h3.2 a (by simp)
      have hl : (((a :: l).length : Int) > 0) = True := eq_true (by rw [List.length_cons]; omega)
      simp only [List.length_cons] at h5
      have ha : app [inv P a] U = some (inv P a :: U) := by rw [app_ok (by simp; omega)]; rfl
      simp only [Option.bind_some, Bool.not_false, if_true, hl, decide_true, idx_head, inverse_eq hfu P a h2 hA, apply_eq hfu P a h2 hA, h1, true_and, sub_tail]
      cases hk : (act P a).2
      · simp [step, hk]
      · simp [step, hk, ha]
  | true =>
    cases U with
    | nil => simp [step]
    | cons a u =>
      have hA := h4.2 a (by simp)
      have hl : (((a :: u).length : Int) > 0) = True := eq_true (by rw [List.length_cons]; omega)
      simp only [Option.bind_some, Bool.not_true, Bool.false_eq_true, if_false, if_true, hl, decide_true, idx_head, apply_eq hfu P a h2 hA, h1, sub_tail]
      rfl
theorem l20State_eq (fu : Nat) (c : Change) : spec_l20State fu c = some (stOf c) := by
  have e : spec_l20State fu c = impl_stateOf fu c := rfl
  rw [e, stateOf_eq]
theorem l20Step_eq {fu : Nat} (hfu : 2097153 ≤ fu) {c : Change} (h : ChF c) : spec_l20Step fu c = some (step c) := by
  obtain ⟨P, A, U, b⟩ := c
  obtain ⟨h1, ⟨h2, h3, h4⟩, h5, h6, h7⟩ := h
  simp only at h1 h2 h3 h4 h5 h6 h7
  unfold spec_l20Step
  rw [l9Own_eq hfu _ h2, l20Copies_eq hfu _ h3, l20Copies_eq hfu _ h4]
  cases b with
  | false =>
    cases A with
    | nil => simp [step]
    | cons a l =>
      have hA := h3.2 a (by simp)
      have hl : (((a :: l).length : Int) > 0) = True := eq_true (by rw [List.length_cons]; omega)
      simp only [List.length_cons] at h5
      have ha : app [inv P a] U = some (inv P a :: U) := by rw [app_ok (by simp; omega)]; rfl
      simp only [Option.bind_some, Bool.not_false, if_true, hl, decide_true, idx_head, l20Apply_eq hfu P a h2 h1 hA, sub_tail]
      cases hk : (act P a).2
      · simp [step, hk]
      · rw [l20Inverse_eq hfu P a h2 hA hk]
        simp [step, hk, ha]
  | true =>
    cases U with
    | nil => simp [step]
    | cons a u =>
      have hA := h4.2 a (by simp)
      have hl : (((a :: u).length : Int) > 0) = True := eq_true (by rw [List.length_cons]; omega)
      simp only [Option.bind_some, Bool.not_true, Bool.false_eq_true, if_false, if_true, hl, decide_true, idx_head, l20Apply_eq hfu P a h2 h1 hA, sub_tail]
      rfl
end AT
