/- FewestSites: the program's and the reference's walk the lists of k sites in one order. -/
import Derived.Test.YtiedecncmihbeaaQSites2
import Derived.Test.YtiedecncmihbeaaH
set_option linter.unusedSimpArgs false
set_option linter.unusedVariables false
namespace AT
theorem clone_eq {fu : Nat} (l : List Int) (h : l.length ≤ 2097152) : slices_Clone_int_int fu l = some l := by
  have hc : app ([] : List Int) l = some l := by unfold app; rw [if_pos (by simp; omega)]; rfl
  unfold slices_Clone_int_int
  rw [hc]
  unfold nilCase
  cases l <;> simp
theorem w_p1 {i : Nat} (h : i ≤ 2097152) : w64 ((i : Int) + 1) = ((i + 1 : Nat) : Int) := by rw [w64_in (by omega) (by omega)]; rfl
theorem w_m1 {k : Nat} (h : k ≤ 2097152) : w64 (((k + 1 : Nat) : Int) - 1) = (k : Int) := by rw [w64_in (by omega) (by omega)]; omega
theorem w_sum {i k : Nat} (h : i + k ≤ 2097152) : w64 ((i : Int) + ((k + 1 : Nat) : Int)) = ((i + k + 1 : Nat) : Int) := by rw [w64_in (by omega) (by omega)]; omega
theorem app1 {l : List Int} {x : Int} (h : l.length ≤ 2097152) : app l [x] = some (l ++ [x]) := by unfold app; rw [if_pos (by simp; omega)]
/-- Too few numbers are left: no list is visited. -/
theorem choices_none (n : Network) (h8 : n.Nodes.length ≤ 8) (reach : Int) : ∀ (k f a : Nat) (list out : List Int), 2097153 + k ≤ f → a ≤ 8 → n.Nodes.length < a + (k + 1) → k + list.length ≤ 2097000 →
    ∃ o, impl_choices_of_fewest_c1 f (a : Int) (n.Nodes.length : Int) ((k + 1 : Nat) : Int) list out n reach = some (false, o) := by
  intro k
  induction k with
  | zero =>
    intro f a list out hf ha hk hl
    obtain ⟨f, rfl⟩ : ∃ g, f = g + 1 := ⟨f - 1, by omega⟩
    rw [impl_choices_of_fewest_c1, impl_choices_of_fewest_c1_B, if_neg (by simp)]
    obtain ⟨g, hg⟩ : ∃ g, f = g + 1 := ⟨f - 1, by omega⟩
    have e : ∀ rec_, impl_choices_of_fewest_c1_L1 f (n.Nodes.length : Int) ((0 + 1 : Nat) : Int) list n reach rec_ f (a : Int) out = some (.next ((a : Int), out)) := by
      intro rec_
      conv => lhs; arg 8; rw [hg]
      rw [impl_choices_of_fewest_c1_L1, if_neg (by simp; omega)]
    rw [e]
    exact ⟨out, rfl⟩
  | succ k ih =>
    intro f a list out hf ha hk hl
    obtain ⟨f, rfl⟩ : ∃ g, f = g + 1 := ⟨f - 1, by omega⟩
    rw [impl_choices_of_fewest_c1, impl_choices_of_fewest_c1_B, if_neg (by simp; omega)]
    have key : ∀ (fk i : Nat) (m : List Int), i ≤ 8 → a ≤ i → 8 - i < fk → ∃ z, impl_choices_of_fewest_c1_L1 f (n.Nodes.length : Int) ((k + 1 + 1 : Nat) : Int) list n reach (fun from' n' count list cap cap2 cap3 => impl_choices_of_fewest_c1 f from' n' count list cap cap2 cap3) fk (i : Int) m = some (.next z) := by
      intro fk
      induction fk with
      | zero => intro i m h1 h2 h3; omega
      | succ fk ih2 =>
        intro i m h1 h2 h3
        rw [impl_choices_of_fewest_c1_L1]
        by_cases h : i < n.Nodes.length
        · rw [if_pos (by simp; omega)]
          obtain ⟨o, ho⟩ := ih f (i + 1) (list ++ [(i : Int)]) m (by omega) (by omega) (by omega) (by rw [List.length_append, List.length_singleton]; omega)
          rw [app1 (by omega), Option.bind_some, w_p1 (by omega), w_m1 (by omega), ho, Option.bind_some]
          simp only [Bool.false_eq_true, if_false]
          exact ih2 (i + 1) o (by omega) (by omega) (by omega)
        · rw [if_neg (by simp; omega)]
          exact ⟨_, rfl⟩
    obtain ⟨z, hz⟩ := key f a out ha (Nat.le_refl _) (by omega)
    rw [hz]
    exact ⟨z.2, rfl⟩
theorem choose_both (n : Network) (hn : NetF n) (reach : Int) : ∀ (k f a : Nat) (list out : List Int), 2097153 + k < f → a ≤ 8 → k + list.length ≤ 2097000 → (∀ v ∈ list, 0 ≤ v ∧ v ≤ 8) → k ≤ 9 →
    ∃ (r o : List Int) (ok : Bool), spec_l19Choose f n reach list (a : Int) (k : Int) = some (r, ok) ∧ impl_choices_of_fewest_c1 f (a : Int) (n.Nodes.length : Int) (k : Int) list out n reach = some (ok, o) ∧ (ok = true → o = r ∧ r.length = list.length + k) := by
  have h8 := hn.hi
  intro k
  induction k with
  | zero =>
    intro f a list out hf ha hl hv h9
    obtain ⟨f, rfl⟩ : ∃ g, f = g + 1 := ⟨f - 1, by omega⟩
    obtain ⟨c, c1, c2⟩ := connect_both (fu := f) (by omega) n hn list (by omega) reach
    rw [spec_l19Choose, spec_l19Choose_B, impl_choices_of_fewest_c1, impl_choices_of_fewest_c1_B, if_pos (by rfl), if_pos (by rfl), c1, impl_fewest_c1, clone_eq list (by omega), Option.bind_some, impl_FewestSites_c1, c2]
    exact ⟨list, list, c, rfl, rfl, fun _ => ⟨rfl, by omega⟩⟩
  | succ k ih =>
    intro f a list out hf ha hl hv h9
    obtain ⟨f, rfl⟩ : ∃ g, f = g + 1 := ⟨f - 1, by omega⟩
    rw [spec_l19Choose, spec_l19Choose_B, impl_choices_of_fewest_c1, impl_choices_of_fewest_c1_B, if_neg (by simp; omega), if_neg (by simp; omega)]
    have own : spec_l1Own f list = some list := by
      have hc : app ([] : List Int) list = some list := by unfold app; rw [if_pos (by simp; omega)]; rfl
      unfold spec_l1Own; rw [hc]; rfl
    have key : ∀ (fk i : Nat) (m : List Int), i ≤ 8 → 8 - i < fk →
        (∃ z1 z2, spec_l19Choose_L1 f n reach list ((k + 1 : Nat) : Int) (fun n' reach sites from' k' => spec_l19Choose f n' reach sites from' k') fk (i : Int) = some (.next z1) ∧
          impl_choices_of_fewest_c1_L1 f (n.Nodes.length : Int) ((k + 1 : Nat) : Int) list n reach (fun from' n' count list cap cap2 cap3 => impl_choices_of_fewest_c1 f from' n' count list cap cap2 cap3) fk (i : Int) m = some (.next z2)) ∨
        (∃ r, spec_l19Choose_L1 f n reach list ((k + 1 : Nat) : Int) (fun n' reach sites from' k' => spec_l19Choose f n' reach sites from' k') fk (i : Int) = some (.ret (r, true)) ∧
          impl_choices_of_fewest_c1_L1 f (n.Nodes.length : Int) ((k + 1 : Nat) : Int) list n reach (fun from' n' count list cap cap2 cap3 => impl_choices_of_fewest_c1 f from' n' count list cap cap2 cap3) fk (i : Int) m = some (.ret (true, r)) ∧ r.length = list.length + (k + 1)) := by
      intro fk
      induction fk with
      | zero => intro i m h1 h2; omega
      | succ fk ih2 =>
        intro i m h1 h2
        rw [spec_l19Choose_L1, w_sum (by omega)]
        by_cases h : i + k + 1 ≤ n.Nodes.length
        · rw [impl_choices_of_fewest_c1_L1, if_pos (by simp; omega), if_pos (by simp; omega), own, Option.bind_some, app1 (by omega), Option.bind_some, w_p1 (by omega), w_m1 (by omega), Option.bind_some]
          obtain ⟨r, o, ok, e1, e2, e3⟩ := ih f (i + 1) (list ++ [(i : Int)]) m (by omega) (by omega) (by rw [List.length_append, List.length_singleton]; omega) (fun v hv' => by
            rcases List.mem_append.1 hv' with hv' | hv'
            · exact hv v hv'
            · rw [List.mem_singleton] at hv'; subst hv'; omega) (by omega)
          rw [e1, e2, Option.bind_some, Option.bind_some]
          cases ok
          · simp only [Bool.false_eq_true, if_false]
            exact ih2 (i + 1) o (by omega) (by omega)
          · obtain ⟨rfl, e4⟩ := e3 rfl
            simp only [if_true]
            rw [List.length_append, List.length_singleton] at e4
            exact .inr ⟨o, rfl, rfl, by omega⟩
        · rw [if_neg (by simp; omega)]
          left
          -- the program goes on, and finds nothing
          have rest : ∀ (fk i : Nat) (m : List Int), i ≤ 8 → n.Nodes.length < i + k + 1 → 8 - i < fk → ∃ z, impl_choices_of_fewest_c1_L1 f (n.Nodes.length : Int) ((k + 1 : Nat) : Int) list n reach (fun from' n' count list cap cap2 cap3 => impl_choices_of_fewest_c1 f from' n' count list cap cap2 cap3) fk (i : Int) m = some (.next z) := by
            intro fk
            induction fk with
            | zero => intro i m h1 h2 h3; omega
            | succ fk ih3 =>
              intro i m h1 h2 h3
              rw [impl_choices_of_fewest_c1_L1]
              by_cases h' : i < n.Nodes.length
              · obtain ⟨k', rfl⟩ : ∃ k', k = k' + 1 := ⟨k - 1, by omega⟩
                obtain ⟨o, ho⟩ := choices_none n h8 reach k' f (i + 1) (list ++ [(i : Int)]) m (by omega) (by omega) (by omega) (by rw [List.length_append, List.length_singleton]; omega)
                rw [if_pos (by simp; omega), app1 (by omega), Option.bind_some, w_p1 (by omega), w_m1 (by omega), ho, Option.bind_some]
                simp only [Bool.false_eq_true, if_false]
                exact ih3 (i + 1) o (by omega) (by omega) (by omega)
              · rw [if_neg (by simp; omega)]
                exact ⟨_, rfl⟩
          obtain ⟨z, hz⟩ := rest (fk + 1) i m h1 (by omega) h2
          exact ⟨_, z, rfl, hz⟩
    rcases key f a out ha (by omega) with ⟨z1, z2, e1, e2⟩ | ⟨r, e1, e2, e3⟩
    · rw [e1, e2]
      exact ⟨[], z2.2, false, rfl, rfl, fun h => (by cases h)⟩
    · rw [e1, e2]
      exact ⟨r, r, true, rfl, rfl, fun _ => ⟨rfl, e3⟩⟩
theorem main_FnExactFewestSites {fu : Nat} (hfu : 4194304 ≤ fu) {x0 : Network} {x1 : Int} (_ : ok_Network x0) (_ : ok_Int x1) (b0 : B_Network x0) : ∃ w, spec_FewestSites fu x0 x1 = some w ∧ impl_FewestSites fu x0 x1 = some w ∧ B_IntS w.1 := by
  have hB : NetB x0 := ⟨b0.1, b0.2.1⟩
  have hfu2 : 2097153 ≤ fu := by omega
  unfold spec_FewestSites impl_FewestSites
  rw [specNet_eq hfu2 x0 hB, implNet_eq hfu2 x0 hB]
  simp only [Option.bind_some]
  cases hv : netOk x0
  · exact ⟨_, rfl, rfl, by simp, fun _ _ => trivial⟩
  have hn := netF hv
  have h8 := hn.hi
  simp only [Bool.not_true, Bool.false_eq_true, if_false, l1In_eq, within_eq, Option.bind_some]
  cases hc : (decide (1 ≤ x1) && decide (x1 ≤ 20000))
  · exact ⟨_, rfl, rfl, by simp, fun _ _ => trivial⟩
  simp only [Bool.not_true, Bool.false_eq_true, if_false]
  have key : ∀ (fk k : Nat) (m : List Int), k ≤ 9 → 9 - k < fk →
      (∃ z1 z2, spec_FewestSites_L1 fu x0 x1 fk (k : Int) = some (.next z1) ∧ impl_fewest_of_FewestSites_c1_L1 fu (x0.Nodes.length : Int) x0 x1 fk (k : Int) m = some (.next z2)) ∨
      (∃ r, spec_FewestSites_L1 fu x0 x1 fk (k : Int) = some (.ret (r, true, true)) ∧ impl_fewest_of_FewestSites_c1_L1 fu (x0.Nodes.length : Int) x0 x1 fk (k : Int) m = some (.ret (r, true)) ∧ r.length ≤ 9) := by
    intro fk
    induction fk with
    | zero => intro k m h1 h2; omega
    | succ fk ih =>
      intro k m h1 h2
      rw [spec_FewestSites_L1, impl_fewest_of_FewestSites_c1_L1, w_p1 (i := x0.Nodes.length) (by omega)]
      by_cases h : k ≤ x0.Nodes.length
      · obtain ⟨r, o, ok, e1, e2, e3⟩ := choose_both x0 hn x1 k fu 0 [] m (by omega) (by omega) (by simp; omega) (fun v hv => by cases hv) h1
        have h0 : ((0 : Nat) : Int) = 0 := rfl
        rw [h0] at e1 e2
        rw [if_pos (by simp; omega), if_pos (by simp; omega), e1, e2, Option.bind_some, Option.bind_some]
        cases ok
        · rw [w_p1 (by omega)]
          simp only [Bool.false_eq_true, if_false]
          exact ih (k + 1) o (by omega) (by omega)
        · obtain ⟨rfl, e4⟩ := e3 rfl
          simp only [if_true]
          exact .inr ⟨o, rfl, rfl, by rw [e4]; simp; omega⟩
      · rw [if_neg (by simp; omega), if_neg (by simp; omega)]
        exact .inl ⟨_, _, rfl, rfl⟩
  unfold impl_fewest_of_FewestSites_c1
  have h0 : ((0 : Nat) : Int) = 0 := rfl
  rcases key fu 0 [] (by omega) (by omega) with ⟨z1, z2, e1, e2⟩ | ⟨r, e1, e2, e3⟩
  · rw [h0] at e1 e2
    rw [e1, e2]
    exact ⟨_, rfl, rfl, by simp, fun _ _ => trivial⟩
  · rw [h0] at e1 e2
    rw [e1, e2]
    exact ⟨_, rfl, rfl, by show r.length ≤ 2097152; omega, fun _ _ => trivial⟩
end AT
