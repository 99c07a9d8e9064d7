/- FnExact, plainly. -/
import Derived.Test.YtmokfdffnijbbaaGreatQDReq
set_option linter.unusedSimpArgs false
set_option linter.unusedVariables false
namespace AT
theorem drawGreedy {fu : Nat} (hfu : 2097153 ≤ fu) {x : List By} (hc : Cur ⟨x, 0, ⟨0⟩⟩ 0) : ∃ n l o, spec_DrawAssignGreedy fu x = some (n, l, o) ∧ NetD n ∧ l.length ≤ 8 ∧ (∀ x ∈ l, x.Route.Fibers.length ≤ 5) ∧ o.length ≤ 8 := by
  unfold spec_DrawAssignGreedy
  obtain ⟨n, l, c1, a1, a2, a3, a4, a5⟩ := requests_ok hfu hc (by omega)
  obtain ⟨o, c2, b1, b2⟩ := orderDraw_ok hfu a5 (by omega) l.length a3
  simp only [a1, b1, Option.bind_some]
  exact ⟨_, _, _, rfl, a2, a3, a4, b2⟩
theorem sum_set {fu : Nat} {l : List Request} (hl : ReqF l) {s : Nat} (y2 : Network × List Request × List Int) (h2 : y2.2.1 = l) (m : Int) (b : Bool) : ∀ (n : Nat), n ≤ l.length → ∀ (fk i : Nat) (t : Int), i ≤ (setOf s n).length → (setOf s n).length - i < fk → t = ((setOf s n).take i).foldl (fun a e => a + (gd l e.toNat r0).Count) 0 → laws_FnExact_L1 fu y2 (m, setOf s n, b) fk t i = some ((setOf s n).foldl (fun a e => a + (gd l e.toNat r0).Count) 0, ((setOf s n).length : Int)) := by
  have h7 := hl.len
  intro n hn fk
  have hmem : ∀ e ∈ setOf s n, 0 ≤ e ∧ e.toNat < l.length := by
    intro e he
    unfold setOf at he
    obtain ⟨k, hk, rfl⟩ := List.mem_map.1 he
    have := List.mem_range.1 (List.mem_filter.1 hk).1
    exact ⟨by omega, by omega⟩
  have hlen : (setOf s n).length ≤ 7 := by
    unfold setOf
    rw [List.length_map]
    exact Nat.le_trans (List.length_filter_le _ _) (by simp; omega)
  have hb : ∀ (L : List Int), (∀ e ∈ L, 0 ≤ e ∧ e.toNat < l.length) → ∀ a, a ≤ L.foldl (fun a e => a + (gd l e.toNat r0).Count) a ∧ L.foldl (fun a e => a + (gd l e.toNat r0).Count) a ≤ a + 24 * (L.length : Int) := by
    intro L
    induction L with
    | nil => intro _ a; simp
    | cons x L ih =>
      intro h a
      have h1 := hl.at_ (h x (by simp)).2
      have := ih (fun e he => h e (by simp [he])) (a + (gd l x.toNat r0).Count)
      rw [List.foldl_cons, List.length_cons]
      omega
  induction fk with
  | zero => intro i _ _ h; omega
  | succ fk ih =>
    intro i t hi hk ht
    rw [laws_FnExact_L1]
    by_cases h : i < (setOf s n).length
    · obtain ⟨e, he⟩ : ∃ e, e = (setOf s n)[i] := ⟨_, rfl⟩
      have hm := hmem _ (List.getElem_mem h)
      rw [← he] at hm
      have h1 := hl.at_ hm.2
      have hidx : idx l e = some (gd l e.toNat r0) := by rw [← Int.toNat_of_nonneg hm.1]; exact idx_gd r0 hm.2
      have ht2 := hb ((setOf s n).take i) (fun e he => hmem e (List.mem_of_mem_take he)) 0
      rw [List.length_take] at ht2
      have hw : w64 (t + (gd l e.toNat r0).Count) = t + (gd l e.toNat r0).Count := w64_in (by omega) (by omega)
      rw [if_pos (show decide ((i : Int) < ((setOf s n).length : Int)) = true by simpa using h)]
      show ((idx (setOf s n) (i : Int)).bind _) = _
      rw [idx_in h, ← he, Option.bind_some, h2, hidx, Option.bind_some, hw, w64_inc h (by omega)]
      clear hw
      refine ih (i + 1) _ h (by omega) ?_
      rw [List.take_add_one, List.getElem?_eq_getElem h, ← he, List.foldl_append, ← ht]
      rfl
    · have : i = (setOf s n).length := by omega
      subst this
      rw [if_neg (show ¬ decide (((setOf s n).length : Int) < ((setOf s n).length : Int)) = true by simp), ht, List.take_length]
theorem fold_set {l : List Request} (s : Nat) : ∀ (n : Nat), (setOf s n).foldl (fun a e => a + (gd l e.toNat r0).Count) 0 = sumTo l s n
  | 0 => rfl
  | n + 1 => by
    rw [setOf_succ, List.foldl_append, fold_set s n, sumTo]
    cases bt s n
    · simp
    · simp
theorem FnExact_true (x0 : List By) (o0 : ok_ByS x0) : ∃ fu, laws_FnExact fu x0 = some true := by
  obtain ⟨fu, hfu4⟩ : ∃ fu, 2097200 ≤ fu := ⟨2097200, Nat.le_refl _⟩
  have hfu : 2097153 ≤ fu := by omega
  refine ⟨fu, ?_⟩
  unfold laws_FnExact laws_vBig
  by_cases hb : (x0.length : Int) > 65536
  · simp only [hb, decide_true, Option.bind_some, if_true]
  simp only [hb, decide_false, Option.bind_some, Bool.false_eq_true, if_false]
  have hc : Cur ⟨x0, 0, ⟨0⟩⟩ 0 := start_cur o0.1 (by omega)
  obtain ⟨n, l, o, g1, h1, h2, h3, h4⟩ := drawGreedy hfu hc
  have hB := h1.B
  have hl : ReqB l := ⟨by omega, fun x hx => by have := h3 x hx; omega⟩
  have hex : spec_AssignExact fu n l = some (if reqsOk n l = true then exR l else ([], 0, false)) := by
    unfold spec_AssignExact
    rw [specReqs_eq hfu n l hB hl]
    cases hv : reqsOk n l
    · rfl
    · rw [Option.bind_some, Bool.not_true, if_neg Bool.false_ne_true, l12Exact_eq hfu4 (reqF hv), if_pos rfl]
      rfl
  obtain ⟨kf, wf, f1, f2, f3⟩ := fiberBound_ok hfu n l hB hl
  have hvq : spec_IsValidRequests fu n l = some (reqsOk n l) := by
    unfold spec_IsValidRequests
    rw [specReqs_eq hfu n l hB hl]
    rfl
  rw [g1, Option.bind_some]
  show ((impl_AssignExact fu n l).bind _) = _
  rw [assignExact_eq hfu4 n l hB hl, Option.bind_some]
  show ((spec_AssignExact fu n l).bind _) = _
  rw [hex, Option.bind_some, bne_self_eq_false, bne_self_eq_false, if_neg Bool.false_ne_true, Option.bind_some, if_neg Bool.false_ne_true]
  show ((impl_CliqueBound fu n l).bind _) = _
  rw [cliqueBound_eq hfu n l hB hl, Option.bind_some]
  show ((impl_FiberBound fu n l).bind _) = _
  rw [f1, Option.bind_some]
  show (((spec_IsValidRequests fu n l).bind _).bind _) = _
  rw [hvq, Option.bind_some]
  cases hv : reqsOk n l
  · rw [if_neg Bool.false_ne_true]
    have hk0 : ¬ kf > 0 := by have := f3 hv; omega
    have e2 : (if ((false : Bool) != false) = true then some true else if ((false : Bool) != false) = true then some true else some (decide (kf > 0))) = some false := by
      rw [decide_eq_false hk0]; rfl
    show ((if ((false : Bool) != false) = true then some true else if ((false : Bool) != false) = true then some true else some (decide (kf > 0))).bind _) = _
    rw [e2, Option.bind_some, if_neg Bool.false_ne_true]
    obtain ⟨gu, hgu⟩ : ∃ g, fu = g + 1 := ⟨fu - 1, by omega⟩
    have hL : laws_FnExact_L1 fu (n, l, o) (0, [], false) fu 0 0 = some (0, 0) := by
      conv => lhs; arg 4; rw [hgu]
      rw [laws_FnExact_L1, if_neg (show ¬ decide ((0 : Int) < (([] : List Int).length : Int)) = true by simp)]
    rw [hL]
    rfl
  · have hF := reqF hv
    have h7 := hF.len
    have hkb : ¬ kf > bnd l := by have := f2 hv; omega
    rw [if_pos rfl]
    have e2 : (if ((true : Bool) != true) = true then some true else if ((true : Bool) != true) = true then some true else some (decide (kf > bnd l))) = some false := by
      rw [decide_eq_false hkb]; rfl
    show ((if ((true : Bool) != true) = true then some true else if ((true : Bool) != true) = true then some true else some (decide (kf > bnd l))).bind _) = _
    rw [e2, Option.bind_some, if_neg Bool.false_ne_true]
    have hL := sum_set (fu := fu) hF (s := best l) (n, l, o) rfl (bnd l) true l.length (Nat.le_refl _) fu 0 0 (by omega) (by
      have : (setOf (best l) l.length).length ≤ 7 := by
        unfold setOf
        rw [List.length_map]
        exact Nat.le_trans (List.length_filter_le _ _) (by simp; omega)
      omega) rfl
    rw [show ((0 : Nat) : Int) = 0 from rfl, fold_set, show sumTo l (best l) l.length = bnd l from (bndF_best _).symm] at hL
    rw [hL, Option.bind_some]
    have hne : (bnd l != bnd l) = false := bne_self_eq_false _
    show (if (bnd l != bnd l) = true then some false else _) = _
    rw [hne, if_neg Bool.false_ne_true]
    unfold exR
    cases he : ex l with
    | none => rfl
    | some z =>
      obtain ⟨full, h⟩ := z
      obtain ⟨a1, a2, a3, a4, a5, a6⟩ := ex_some hF he
      have hh := ex_hgt hF he
      have hb0 := bnd_in hF
      have hA24 : As l 24 full := fun i hi => by
        obtain ⟨q1, q2, q3, q4⟩ := a1 i hi
        exact ⟨q1, q2, by omega, q4⟩
      have hck := check_ok hfu n l hB hl hv hA24 a2
      rw [hh] at hck
      have hgap : impl_OptimalityGap fu n l full = some (h - bnd l, true) := by
        unfold impl_OptimalityGap
        rw [hck, Option.bind_some, if_neg (show ¬ (!true) = true by decide), implBound_eq hfu hF, Option.bind_some]
        show some (w64 (h - bnd l), true) = _
        rw [w64_in (by omega) (by omega)]
      have hwg : w64 (h - bnd l) = h - bnd l := w64_in (by omega) (by omega)
      have hng : ¬ h - bnd l < 0 := by omega
      show (if (!true) = true then _ else (impl_CheckAssignment fu n l full).bind _) = _
      rw [if_neg (show ¬ (!true) = true by decide), hck, Option.bind_some]
      show ((impl_OptimalityGap fu n l full).bind _) = _
      rw [hgap, Option.bind_some]
      have e3 : (if (!true) = true then some true else if (!true) = true then some true else if (h != h) = true then some true else if (h - bnd l != w64 (h - bnd l)) = true then some true else some (decide (h - bnd l < 0))) = some false := by
        rw [hwg, bne_self_eq_false, bne_self_eq_false, decide_eq_false hng]; rfl
      show ((if (!true) = true then some true else if (!true) = true then some true else if (h != h) = true then some true else if (h - bnd l != w64 (h - bnd l)) = true then some true else some (decide (h - bnd l < 0))).bind _) = _
      rw [e3, Option.bind_some, if_neg Bool.false_ne_true]
      show ((impl_AssignGreedy fu n l o).bind _) = _
      rcases assignGreedy_both hfu n l hB hl o (by omega) with ⟨q1, q2⟩ | ⟨bl, -, q1, q2, q3, q4⟩
      · obtain ⟨z, hz⟩ := check_ex hfu n l hB hl
        rw [q1, Option.bind_some]
        show ((spec_AssignGreedy fu n l o).bind _) = _
        rw [q2, Option.bind_some, bne_self_eq_false, bne_self_eq_false, if_neg Bool.false_ne_true, Option.bind_some, if_neg Bool.false_ne_true]
        show ((impl_CheckAssignment fu n l []).bind _) = _
        rw [hz]
        rfl
      · have hck2 := check_ok hfu n l hB hl hv q4 q3
        have hge : hgt bl ≥ h := a6 (hgt bl) bl (hgt_0 _) (q4.le (by omega)) q4.hgt q3
        rw [q1, Option.bind_some]
        show ((spec_AssignGreedy fu n l o).bind _) = _
        rw [q2, Option.bind_some, bne_self_eq_false, bne_self_eq_false, if_neg Bool.false_ne_true, Option.bind_some, if_neg Bool.false_ne_true]
        show ((impl_CheckAssignment fu n l bl).bind _) = _
        rw [hck2, Option.bind_some]
        show ((if (!true) = true then some true else if true = true then if (hgt bl == hgt bl) = true then some (decide (hgt bl ≥ h)) else some false else some false).bind _) = _
        rw [if_neg (show ¬ (!true) = true by decide), if_pos rfl, beq_self_eq_true, if_pos rfl, decide_eq_true hge]
        rfl
end AT
