/- RegeneratorsFor: the program's and the reference's are one. -/
import Derived.Test.YtihidfnpcdefcaaQRoute
import Derived.Test.YtihidfnpcdefcaaH
set_option linter.unusedSimpArgs false
namespace AT
theorem regen_loop {fu fu' : Nat} (n : Network) (r : Route) (reach : Int) (hr1 : reach ≤ 20000) {ns : List Int} (b : Bool) (hn : NetF n) (hl : r.Fibers.length ≤ 2097152) (ho : rnodes n r = some ns) : ∀ (fk i : Nat) (out : List Int) (s : Int), i ≤ r.Fibers.length → r.Fibers.length - i < fk → out.length ≤ i → 0 ≤ s → s ≤ 20000 →
    ∃ o, spec_RegeneratorsFor_L1 fu n r reach ns fk out s i = some o ∧ impl_regenerators_L1 fu' n r reach (ns, b) fk out s i = some o ∧ match o with | .ret z => z = ([], false) | .next z => z.1.length ≤ 2097152 := by
  intro fk
  induction fk with
  | zero => intro i _ _ _ h; omega
  | succ fk ih =>
    intro i out s hi hk hol h0 h1
    rw [spec_RegeneratorsFor_L1, impl_regenerators_L1]
    by_cases h : i < r.Fibers.length
    · obtain ⟨e1, e2⟩ := fib_at ho h
      have hf := hn.each _ e2
      obtain ⟨f, hfe⟩ : ∃ f, f = gd n.Fibers r.Fibers[i].toNat f0 := ⟨_, rfl⟩
      rw [← hfe] at e1 hf
      have hns := rnodes_len ho
      have hd : decide ((i : Int) < (r.Fibers.length : Int)) = true := by simpa using h
      simp only [hd, if_true, idx_in h, Option.bind_some, e1, idx_in (show i < ns.length by omega)]
      by_cases hg : f.Length > reach
      · simp only [hg, decide_true, if_true]
        exact ⟨_, rfl, rfl, rfl⟩
      · simp only [hg, decide_false, Bool.false_eq_true, if_false]
        rw [w64_in (n := s + f.Length) (by omega) (by omega), w64_in (n := 0 + f.Length) (by omega) (by omega), app_ok (by simp; omega), w64_inc h (by omega)]
        by_cases hs : s + f.Length > reach
        · simp only [hs, decide_true, if_true, Option.bind_some]
          exact ih (i + 1) _ _ h (by omega) (by simp; omega) (by omega) (by omega)
        · simp only [hs, decide_false, Bool.false_eq_true, if_false]
          exact ih (i + 1) _ _ h (by omega) (by omega) (by omega) (by omega)
    · obtain rfl : i = r.Fibers.length := by omega
      rw [if_neg (by simp), if_neg (by simp)]
      exact ⟨_, rfl, rfl, by simp only; omega⟩
theorem main_FnExactRegeneratorsFor {fu : Nat} (hfu : 2097153 ≤ fu) {x0 : Network} {x1 : Route} {x2 : Int} (_ : ok_Network x0) (_ : ok_Route x1) (_ : ok_Int x2) (b0 : B_Network x0) (b1 : B_Route x1) : ∃ w, spec_RegeneratorsFor fu x0 x1 x2 = some w ∧ impl_RegeneratorsFor fu x0 x1 x2 = some w ∧ B_IntS w.1 := by
  have hB : NetB x0 := ⟨b0.1, b0.2.1⟩
  have hr : x1.Fibers.length ≤ 2097152 := b1.1
  unfold spec_RegeneratorsFor impl_RegeneratorsFor impl_IsValidRoute
  simp only [l4Good_eq hfu x0 x1 hB hr, routeNodes_eq hfu x0 x1 hB hr, Option.bind_some, l1In_eq, within_eq]
  have bz : B_IntS [] := ⟨by simp, by simp⟩
  by_cases hv : netOk x0 = true
  · cases ho : rnodes x0 x1 with
    | none => exact ⟨([], false), by simp [hv], by simp [hv], bz⟩
    | some ns =>
      by_cases hc : 1 ≤ x2 ∧ x2 ≤ 20000
      · have hc' : (decide (1 ≤ x2) && decide (x2 ≤ 20000)) = true := by simpa using hc
        obtain ⟨o, h1, h2, h3⟩ := regen_loop (fu := fu) (fu' := fu) x0 x1 x2 hc.2 true (netF hv) hr ho fu 0 [] 0 (by omega) (by omega) (by simp) (by omega) (by omega)
        rw [show ((0 : Nat) : Int) = 0 from rfl] at h1 h2
        simp only [hv, Option.isSome_some, Bool.and_true, Bool.not_true, Bool.false_eq_true, if_false, if_true, hc', Option.bind_some, l4Nodes_eq hfu x0 x1 hB hr ho, impl_regenerators, visited_eq hfu x0 x1 hB.2 hB.1.1 hr, ho, h1, h2]
        cases o with
        | ret z => subst h3; exact ⟨_, rfl, rfl, bz⟩
        | next z => exact ⟨_, rfl, rfl, h3, fun _ _ => trivial⟩
      · have hc' : (decide (1 ≤ x2) && decide (x2 ≤ 20000)) = false := by rw [Bool.eq_false_iff]; simp; omega
        exact ⟨([], false), by simp [hv, hc'], by simp [hv, hc'], bz⟩
  · rw [Bool.not_eq_true] at hv
    exact ⟨([], false), by simp [hv], by simp [hv], bz⟩
end AT
