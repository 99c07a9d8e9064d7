/- FnGreedyOrder, plainly. -/
import Derived.Test.YtmokfdffnijbbaaQVInts
set_option linter.unusedSimpArgs false
set_option linter.unusedVariables false
namespace AT
theorem drawOrder {fu : Nat} (hfu : 2097153 ≤ fu) {x : List By} (hc : Cur ⟨x, 0, ⟨0⟩⟩ 0) : ∃ n l, spec_DrawGreedyOrder fu x = some (n, l) ∧ NetD n ∧ l.length ≤ 8 ∧ (∀ x ∈ l, x.Route.Fibers.length ≤ 5) := by
  unfold spec_DrawGreedyOrder
  obtain ⟨n, l, c1, a1, a2, a3, a4, a5⟩ := requests_ok hfu hc (by omega)
  simp only [a1, Option.bind_some]
  by_cases h : (l.length : Int) > 5
  · have hs : sub l 0 5 = some (l.take 5) := sub_take (i := 5) (by omega)
    simp only [h, decide_true, if_true, hs, Option.bind_some]
    exact ⟨_, _, rfl, a2, by rw [List.length_take]; omega, fun x hx => a4 x (List.mem_of_mem_take hx)⟩
  · simp only [h, decide_false, Bool.false_eq_true, if_false]
    exact ⟨_, _, rfl, a2, a3, a4⟩
theorem order_same {fu : Nat} (hfu4 : 2097200 ≤ fu) (n : Network) (l : List Request) (hB : NetB n) (hl : ReqB l) :
    ∃ r : List Int × Bool, impl_GreedyOrder fu n l = some r ∧ spec_GreedyOrder fu n l = some r ∧ r.1.length ≤ 8 ∧ (r.2 = false → r.1 = []) ∧ (r.2 = true → ∃ full h bl, impl_AssignExact fu n l = some (full, h, true) ∧ impl_AssignGreedy fu n l r.1 = some (bl, h, true)) := by
  have hfu : 2097153 ≤ fu := by omega
  have hax := assignExact_eq hfu4 n l hB hl
  unfold impl_GreedyOrder spec_GreedyOrder
  rw [specReqs_eq hfu n l hB hl]
  cases hv : reqsOk n l
  · rw [hv, if_neg Bool.false_ne_true] at hax
    rw [hax]
    exact ⟨([], false), rfl, rfl, by simp, fun _ => rfl, fun h => (Bool.false_ne_true h).elim⟩
  have hF := reqF hv
  have h7 := hF.len
  rw [hv, if_pos rfl] at hax
  rw [hax, Option.bind_some, Option.bind_some, if_neg (show ¬ (!true) = true by decide), l12Exact_eq hfu4 hF, Option.bind_some]
  cases he : ex l with
  | none =>
    have hq : exR l = ([], 0, false) := by unfold exR; rw [he]
    rw [hq]
    exact ⟨([], false), rfl, rfl, by simp, fun _ => rfl, fun h => (Bool.false_ne_true h).elim⟩
  | some z =>
    obtain ⟨full, h⟩ := z
    have hq : exR l = (full, h, true) := by unfold exR; rw [he]
    have hp0 : Pre l [] := ⟨fun e he => (by cases he), List.nodup_nil⟩
    obtain ⟨b1, b2⟩ := ord_both hF h l.length fu [] (by omega) (by simp) hp0
    rw [hq, if_neg (show ¬ (!true) = true by decide), if_neg (show ¬ (!true) = true by decide)]
    cases ho : ordS l h l.length [] with
    | none =>
      rw [ho] at b1 b2
      simp only at b1 b2
      rw [b1, b2]
      exact ⟨([], false), rfl, rfl, by simp, fun _ => rfl, fun h => (Bool.false_ne_true h).elim⟩
    | some o =>
      rw [ho] at b1 b2
      simp only at b1 b2
      obtain ⟨p1, p2, p3⟩ := ordS_ok l.length [] o (by simp) hp0 ho
      obtain ⟨bl, q1⟩ := assign_leaf hfu n l hB hl hv p1 p2 p3
      rw [b1, b2]
      refine ⟨(o, true), rfl, rfl, by show o.length ≤ 8; omega, fun h => (Bool.false_ne_true h.symm).elim, fun _ => ⟨full, h, bl, ?_, q1⟩⟩
      rfl
theorem FnGreedyOrder_true (x0 : List By) (o0 : ok_ByS x0) : ∃ fu, laws_FnGreedyOrder fu x0 = some true := by
  obtain ⟨fu, hfu4⟩ : ∃ fu, 2097200 ≤ fu := ⟨2097200, Nat.le_refl _⟩
  have hfu : 2097153 ≤ fu := by omega
  refine ⟨fu, ?_⟩
  unfold laws_FnGreedyOrder laws_vBig
  by_cases hb : (x0.length : Int) > 65536
  · simp only [hb, decide_true, Option.bind_some, if_true]
  simp only [hb, decide_false, Option.bind_some, Bool.false_eq_true, if_false]
  have hc : Cur ⟨x0, 0, ⟨0⟩⟩ 0 := start_cur o0.1 (by omega)
  obtain ⟨n, l, g1, h1, h2, h3⟩ := drawOrder hfu hc
  have hB := h1.B
  have hl : ReqB l := ⟨by omega, fun x hx => by have := h3 x hx; omega⟩
  obtain ⟨⟨o, b⟩, r1, r2, r3, r4, r5⟩ := order_same hfu4 n l hB hl
  rw [g1, Option.bind_some]
  show ((impl_GreedyOrder fu n l).bind _) = _
  rw [r1, Option.bind_some]
  show ((spec_GreedyOrder fu n l).bind _) = _
  have hself : laws_vInts fu o o = some true := vInts_self hfu o (by have : o.length ≤ 8 := r3; omega)
  rw [r2, Option.bind_some, bne_self_eq_false, if_neg Bool.false_ne_true, hself, Option.bind_some, Option.bind_some, if_neg (show ¬ (!true) = true by decide)]
  cases b
  · have : o = [] := r4 rfl
    rw [if_pos (show (!false) = true by rfl), this]
    rfl
  · obtain ⟨full, h, bl, q1, q2⟩ := r5 rfl
    rw [if_neg (show ¬ (!true) = true by decide)]
    show ((impl_AssignExact fu n l).bind _) = _
    rw [q1, Option.bind_some]
    show ((impl_AssignGreedy fu n l o).bind _) = _
    have q2' : impl_AssignGreedy fu n l o = some (bl, h, true) := q2
    rw [q2', Option.bind_some, if_pos rfl, if_pos rfl, beq_self_eq_true]
    rfl
end AT
