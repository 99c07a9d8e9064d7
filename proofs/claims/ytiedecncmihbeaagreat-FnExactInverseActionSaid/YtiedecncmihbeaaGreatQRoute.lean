/- Routes, plainly: the nodes that a route visits. -/
import Derived.Test.YtiedecncmihbeaaGreatQNet
set_option linter.unusedSimpArgs false
set_option linter.unusedVariables false
namespace AT
theorem app_ok {α : Type} {l m : List α} (h : l.length + m.length ≤ 1099511627776) : app l m = some (l ++ m) := by unfold app; rw [if_pos h]
theorem indexI_eq {fu : Nat} (l : List Int) (v : Int) (h : l.length < fu) (hn : l.length ≤ 2097152) : slices_Index_int_int fu l v = some (if l.any (fun x => x == v) then ((l.findIdx fun x => x == v : Nat) : Int) else -1) := by
  unfold slices_Index_int_int
  rw [scan_all (l := l) (G := slices_Index_int_int_L1 fu l v) (fun x => x == v) (fun i => (i : Int)) (by omega)
    (fun fk i hi => by rw [slices_Index_int_int_L1, if_pos (by simpa using hi), idx_in hi, Option.bind_some, beq_symm' v])
    (fun fk => by rw [slices_Index_int_int_L1, if_neg (by simp)]) fu h]
  cases l.any (fun x => x == v) <;> rfl
theorem containsI_eq {fu : Nat} (l : List Int) (v : Int) (h : l.length < fu) (hn : l.length ≤ 2097152) : slices_Contains_int_int fu l v = some (l.any fun x => x == v) := by
  unfold slices_Contains_int_int
  rw [indexI_eq l v h hn]
  cases l.any (fun x => x == v)
  · rfl
  · simp
theorem l1Has_eq {fu : Nat} (l : List Int) (v : Int) (h : l.length < fu) (hn : l.length ≤ 2097152) : spec_l1Has fu l v = some (l.any fun x => x == v) := by
  unfold spec_l1Has
  rw [scan_all (l := l) (G := spec_l1Has_L1 fu l v) (fun x => x == v) (fun i => true) (by omega)
    (fun fk i hi => by rw [spec_l1Has_L1, if_pos (by simpa using hi), idx_in hi, Option.bind_some])
    (fun fk => by rw [spec_l1Has_L1, if_neg (by simp)]) fu h]
  cases l.any (fun x => x == v) <;> rfl
def oth (f : Fiber) (v : Int) : Int := if v = f.A then f.B else if v = f.B then f.A else -1
theorem oth_if {R : Type} (f : Fiber) (v : Int) (k : Int → R) : (if v == f.A then k f.B else if v == f.B then k f.A else k (-1)) = k (oth f v) := by
  unfold oth
  by_cases h1 : v = f.A
  · rw [if_pos (beq_iff_eq.2 h1), if_pos h1]
  · rw [if_neg (by simpa using h1), if_neg h1]
    by_cases h2 : v = f.B
    · rw [if_pos (beq_iff_eq.2 h2), if_pos h2]
    · rw [if_neg (by simpa using h2), if_neg h2]
theorem otherEnd_eq (fu : Nat) (f : Fiber) (v : Int) : impl_otherEnd fu f v = some (oth f v) := by
  exact oth_if f v some
theorem l2Other_eq (fu : Nat) (n : Network) (i : Nat) (v : Int) (h : i < n.Fibers.length) : spec_l2Other fu n (i : Int) v = some (oth (gd n.Fibers i f0) v) := by
  unfold spec_l2Other
  rw [idx_gd f0 h]
  exact oth_if _ v some
/-- The nodes behind 'out', along fibers. -/
def rwalk (F : List Fiber) : List Int → List Int → Int → Option (List Int)
  | [], out, _ => some out
  | i :: r, out, v => if 0 ≤ i ∧ i < (F.length : Int) then (if oth (gd F i.toNat f0) v < 0 ∨ (out.any fun x => x == oth (gd F i.toNat f0) v) = true then none else rwalk F r (out ++ [oth (gd F i.toNat f0) v]) (oth (gd F i.toNat f0) v)) else none
def rnodes (n : Network) (r : Route) : Option (List Int) := if (0 ≤ r.Start ∧ r.Start < (n.Nodes.length : Int)) ∧ r.Fibers ≠ [] then rwalk n.Fibers r.Fibers [r.Start] r.Start else none
def gl (l : List Int) : Int := gd l (l.length - 1) 0
theorem gl_snoc (l : List Int) (x : Int) : gl (l ++ [x]) = x := by unfold gl gd; simp
theorem rwalk_len {F : List Fiber} : ∀ {fs out : List Int} {v : Int} {o : List Int}, rwalk F fs out v = some o → o.length = out.length + fs.length
  | [], out, v, o, h => by simp only [rwalk, Option.some.injEq] at h; subst h; simp
  | i :: r, out, v, o, h => by
    unfold rwalk at h
    split at h
    · split at h
      · cases h
      · have := rwalk_len h
        simp only [List.length_append, List.length_cons, List.length_nil] at this ⊢
        omega
    · cases h
theorem visited_loop {fu : Nat} (hfu : 2097153 ≤ fu) (n : Network) (r : Route) (hn : n.Fibers.length ≤ 2097152) (hr : r.Fibers.length ≤ 2097152) : ∀ (fk i : Nat) (out : List Int) (v : Int), i ≤ r.Fibers.length → r.Fibers.length - i < fk → out.length = i + 1 →
    ∃ z, impl_visited_L1 fu n r fk out v i = some (match rwalk n.Fibers (r.Fibers.drop i) out v with | some o => .next (o, z) | none => .ret ([], false)) := by
  intro fk
  induction fk with
  | zero => intro i _ _ _ h; omega
  | succ fk ih =>
    intro i out v hi hk ho
    rw [impl_visited_L1]
    by_cases h : i < r.Fibers.length
    · rw [if_pos (by simpa using h), idx_in h, ← List.getElem_cons_drop h, rwalk]
      obtain ⟨e, he⟩ : ∃ e, e = r.Fibers[i] := ⟨_, rfl⟩
      simp only [← he, Option.bind_some, within_eq]
      rw [w64_in (by omega) (by omega)]
      by_cases hb : 0 ≤ e ∧ e < (n.Fibers.length : Int)
      · rw [if_pos hb]
        have hb' : (decide (0 ≤ e) && decide (e ≤ (n.Fibers.length : Int) - 1)) = true := by simp; omega
        have hx : idx n.Fibers e = some (gd n.Fibers e.toNat f0) := by
          have := idx_gd (l := n.Fibers) (i := e.toNat) f0 (by omega)
          rwa [Int.toNat_of_nonneg hb.1] at this
        simp only [hb', Bool.not_true, Bool.false_eq_true, if_false, hx, Option.bind_some, otherEnd_eq]
        obtain ⟨y, hy⟩ : ∃ y, y = oth (gd n.Fibers e.toNat f0) v := ⟨_, rfl⟩
        simp only [← hy, containsI_eq out y (show out.length < fu by omega) (by omega)]
        by_cases hn : y < 0 ∨ (out.any fun x => x == y) = true
        · rw [if_pos hn]
          refine ⟨(0, 0), ?_⟩
          rcases hn with h1 | h1
          · simp [h1]
          · by_cases h2 : y < 0 <;> simp [h1, h2]
        · rw [if_neg hn]
          have h1 : ¬ y < 0 := fun h => hn (.inl h)
          have h2 : (out.any fun x => x == y) = false := by rw [Bool.eq_false_iff]; exact fun h => hn (.inr h)
          simp only [h1, decide_false, Bool.false_eq_true, if_false, h2, Option.bind_some]
          rw [app_ok (by simp; omega), Option.bind_some, w64_inc h (by omega)]
          exact ih (i + 1) _ _ h (by omega) (by simp; omega)
      · rw [if_neg hb]
        have hb' : (decide (0 ≤ e) && decide (e ≤ (n.Fibers.length : Int) - 1)) = false := by rw [Bool.eq_false_iff]; simp; omega
        exact ⟨(0, 0), by simp [hb']⟩
    · obtain rfl : i = r.Fibers.length := by omega
      rw [if_neg (by simp), List.drop_length]
      exact ⟨_, rfl⟩
theorem visited_eq {fu : Nat} (hfu : 2097153 ≤ fu) (n : Network) (r : Route) (hn : n.Fibers.length ≤ 2097152) (hm : n.Nodes.length ≤ 2097152) (hr : r.Fibers.length ≤ 2097152) : impl_visited fu n r = some (match rnodes n r with | some o => (o, true) | none => ([], false)) := by
  unfold impl_visited
  simp only [within_eq, Option.bind_some]
  rw [w64_in (by omega) (by omega)]
  by_cases hs : 0 ≤ r.Start ∧ r.Start < (n.Nodes.length : Int)
  · have hb' : (decide (0 ≤ r.Start) && decide (r.Start ≤ (n.Nodes.length : Int) - 1)) = true := by simp; omega
    by_cases he : r.Fibers = []
    · have er : rnodes n r = none := by unfold rnodes; rw [if_neg fun h => h.2 he]
      simp [hb', he, er]
    · have er : rnodes n r = rwalk n.Fibers r.Fibers [r.Start] r.Start := by unfold rnodes; rw [if_pos ⟨hs, he⟩]
      have he' : ((r.Fibers.length : Int) == 0) = false := by
        rw [beq_eq_false_iff_ne]
        have := List.length_pos_iff.2 he
        omega
      obtain ⟨z, hz⟩ := visited_loop hfu n r hn hr fu 0 [r.Start] r.Start (by omega) (by omega) rfl
      rw [List.drop_zero, show ((0 : Nat) : Int) = 0 from rfl] at hz
      rw [er]
      simp only [hb', Bool.not_true, Bool.false_eq_true, if_false, he', Option.bind_some, hz]
      cases rwalk n.Fibers r.Fibers [r.Start] r.Start <;> rfl
  · have hb' : (decide (0 ≤ r.Start) && decide (r.Start ≤ (n.Nodes.length : Int) - 1)) = false := by rw [Bool.eq_false_iff]; simp; omega
    have er : rnodes n r = none := by unfold rnodes; rw [if_neg fun h => hs h.1]
    simp [hb', er]
theorem walk_loop {fu : Nat} (hfu : 2097153 ≤ fu) (n : Network) (r : Route) (hn : n.Fibers.length ≤ 2097152) (hr : r.Fibers.length ≤ 2097152) : ∀ (fk i : Nat) (out : List Int), i ≤ r.Fibers.length → r.Fibers.length - i < fk → out.length = i + 1 →
    ∃ z o', spec_l4Walk_L1 fu n r fk out i = some (match rwalk n.Fibers (r.Fibers.drop i) out (gl out) with | some o => .next (o, z) | none => .ret (o', false)) := by
  intro fk
  induction fk with
  | zero => intro i _ _ h; omega
  | succ fk ih =>
    intro i out hi hk ho
    rw [spec_l4Walk_L1]
    by_cases h : i < r.Fibers.length
    · rw [if_pos (by simpa using h), idx_in h, ← List.getElem_cons_drop h, rwalk]
      obtain ⟨e, he⟩ : ∃ e, e = r.Fibers[i] := ⟨_, rfl⟩
      have hlast : idx out (w64 ((out.length : Int) - 1)) = some (gl out) := by
        rw [w64_dec (by omega) (by omega), idx_gd 0 (by omega)]; rfl
      simp only [← he, Option.bind_some, l1In_eq, hlast]
      rw [w64_in (by omega) (by omega)]
      by_cases hb : 0 ≤ e ∧ e < (n.Fibers.length : Int)
      · rw [if_pos hb]
        have hb' : (decide (0 ≤ e) && decide (e ≤ (n.Fibers.length : Int) - 1)) = true := by simp; omega
        have hx : spec_l2Other fu n e (gl out) = some (oth (gd n.Fibers e.toNat f0) (gl out)) := by
          have := l2Other_eq fu n e.toNat (gl out) (by omega)
          rwa [Int.toNat_of_nonneg hb.1] at this
        simp only [hb', Bool.not_true, Bool.false_eq_true, if_false, hx, Option.bind_some]
        obtain ⟨y, hy⟩ : ∃ y, y = oth (gd n.Fibers e.toNat f0) (gl out) := ⟨_, rfl⟩
        simp only [← hy, l1Has_eq out y (show out.length < fu by omega) (by omega)]
        by_cases hn : y < 0 ∨ (out.any fun x => x == y) = true
        · rw [if_pos hn]
          refine ⟨0, out, ?_⟩
          rcases hn with h1 | h1
          · simp [h1]
          · by_cases h2 : y < 0 <;> simp [h1, h2]
        · rw [if_neg hn]
          have h1 : ¬ y < 0 := fun h => hn (.inl h)
          have h2 : (out.any fun x => x == y) = false := by rw [Bool.eq_false_iff]; exact fun h => hn (.inr h)
          simp only [h1, decide_false, Bool.false_eq_true, if_false, h2, Option.bind_some]
          rw [app_ok (by simp; omega), Option.bind_some, w64_inc h (by omega)]
          have := ih (i + 1) (out ++ [y]) h (by omega) (by simp; omega)
          rwa [gl_snoc] at this
      · rw [if_neg hb]
        have hb' : (decide (0 ≤ e) && decide (e ≤ (n.Fibers.length : Int) - 1)) = false := by rw [Bool.eq_false_iff]; simp; omega
        exact ⟨0, out, by simp [hb']⟩
    · obtain rfl : i = r.Fibers.length := by omega
      rw [if_neg (by simp), List.drop_length]
      exact ⟨_, [], rfl⟩
theorem walk_eq {fu : Nat} (hfu : 2097153 ≤ fu) (n : Network) (r : Route) (hn : n.Fibers.length ≤ 2097152) (hm : n.Nodes.length ≤ 2097152) (hr : r.Fibers.length ≤ 2097152) : ∃ o', spec_l4Walk fu n r = some (match rnodes n r with | some o => (o, true) | none => (o', false)) := by
  unfold spec_l4Walk
  simp only [l1In_eq, Option.bind_some]
  rw [w64_in (by omega) (by omega)]
  by_cases hs : 0 ≤ r.Start ∧ r.Start < (n.Nodes.length : Int)
  · have hb' : (decide (0 ≤ r.Start) && decide (r.Start ≤ (n.Nodes.length : Int) - 1)) = true := by simp; omega
    by_cases he : r.Fibers = []
    · have er : rnodes n r = none := by unfold rnodes; rw [if_neg fun h => h.2 he]
      exact ⟨[r.Start], by simp [hb', he, er]⟩
    · have er : rnodes n r = rwalk n.Fibers r.Fibers [r.Start] r.Start := by unfold rnodes; rw [if_pos ⟨hs, he⟩]
      have he' : ((r.Fibers.length : Int) == 0) = false := by
        rw [beq_eq_false_iff_ne]
        have := List.length_pos_iff.2 he
        omega
      obtain ⟨z, o', hz⟩ := walk_loop hfu n r hn hr fu 0 [r.Start] (by omega) (by omega) rfl
      rw [List.drop_zero, show ((0 : Nat) : Int) = 0 from rfl, show gl [r.Start] = r.Start from rfl] at hz
      refine ⟨o', ?_⟩
      rw [er]
      simp only [hb', Bool.not_true, Bool.false_eq_true, if_false, he', Option.bind_some, hz]
      cases rwalk n.Fibers r.Fibers [r.Start] r.Start <;> rfl
  · have hb' : (decide (0 ≤ r.Start) && decide (r.Start ≤ (n.Nodes.length : Int) - 1)) = false := by rw [Bool.eq_false_iff]; simp; omega
    refine ⟨[r.Start], ?_⟩
    have er : rnodes n r = none := by unfold rnodes; rw [if_neg fun h => hs h.1]
    simp [hb', er]
theorem l4Good_eq {fu : Nat} (hfu : 2097153 ≤ fu) (n : Network) (r : Route) (hB : NetB n) (hr : r.Fibers.length ≤ 2097152) : spec_l4Good fu n r = some (netOk n && (rnodes n r).isSome) := by
  unfold spec_l4Good
  rw [specNet_eq hfu n hB, Option.bind_some]
  obtain ⟨o', h⟩ := walk_eq hfu n r hB.2 hB.1.1 hr
  rw [h]
  cases netOk n
  · rfl
  · cases rnodes n r <;> rfl
theorem rnodes_len {n : Network} {r : Route} {o : List Int} (h : rnodes n r = some o) : o.length = r.Fibers.length + 1 := by
  unfold rnodes at h
  split at h
  · have := rwalk_len h
    simp only [List.length_cons, List.length_nil] at this
    omega
  · cases h
theorem short_of : ∀ (m : Nat) (l : List Int), l.Nodup → (∀ x ∈ l, 0 ≤ x ∧ x < (m : Int)) → l.length ≤ m
  | 0, l, _, h => by
    cases l with
    | nil => simp
    | cons x l => have := h x (by simp); omega
  | m + 1, l, hn, h => by
    have h1 := short_of m (l.erase (m : Int)) (hn.erase _) fun x hx => by
      have hx1 := List.mem_of_mem_erase hx
      have := h x hx1
      refine ⟨this.1, ?_⟩
      have hne : x ≠ (m : Int) := fun e => by
        subst e
        exact (hn.not_mem_erase) hx
      omega
    rw [List.length_erase] at h1
    split at h1 <;> omega
theorem oth_mem {f : Fiber} {v : Int} (h : 0 ≤ oth f v) : (v = f.A ∧ oth f v = f.B) ∨ (v = f.B ∧ oth f v = f.A) := by
  unfold oth at h ⊢
  split at h
  · rename_i h1; rw [if_pos h1]; exact .inl ⟨h1, rfl⟩
  · rename_i h1
    rw [if_neg h1]
    split at h
    · rename_i h2; rw [if_pos h2]; exact .inr ⟨h2, rfl⟩
    · omega
theorem rwalk_all {F : List Fiber} (P : Int → Prop) (hF : ∀ f ∈ F, P f.A ∧ P f.B) : ∀ {fs out : List Int} {v : Int} {o : List Int} (U : List Int), rwalk F fs out v = some o → out.Nodup → (∀ x ∈ out, P x) → v ∈ out → (∀ i ∈ U, (gd F i.toNat f0).A ∈ out ∧ (gd F i.toNat f0).B ∈ out) →
    o.Nodup ∧ (∀ x ∈ o, P x) ∧ fs.Nodup ∧ ∀ i ∈ fs, i ∉ U
  | [], out, v, o, U, h, h1, h2, h3, h4 => by
    simp only [rwalk, Option.some.injEq] at h
    subst h
    exact ⟨h1, h2, .nil, by simp⟩
  | i :: r, out, v, o, U, h, h1, h2, h3, h4 => by
    unfold rwalk at h
    split at h
    case isFalse => cases h
    rename_i hi
    split at h
    case isTrue => cases h
    rename_i hc
    obtain ⟨y, hy⟩ : ∃ y, y = oth (gd F i.toNat f0) v := ⟨_, rfl⟩
    rw [← hy] at h hc
    have hy0 : 0 ≤ y := by
      rcases Classical.em (y < 0) with h' | h'
      · exact absurd (.inl h') hc
      · omega
    have hny : y ∉ out := fun hm => hc (.inr (List.any_eq_true.2 ⟨y, hm, by simp⟩))
    have hfm : gd F i.toNat f0 ∈ F := gd_mem f0 (by omega)
    have hm := oth_mem (f := gd F i.toNat f0) (v := v) (by omega)
    rw [← hy] at hm
    have hPy : P y := by
      rcases hm with ⟨_, e⟩ | ⟨_, e⟩ <;> rw [e]
      · exact (hF _ hfm).2
      · exact (hF _ hfm).1
    have hiU : i ∉ U := fun hu => by
      have := h4 i hu
      rcases hm with ⟨_, e⟩ | ⟨_, e⟩ <;> rw [e] at hny
      · exact hny this.2
      · exact hny this.1
    obtain ⟨g1, g2, g3, g4⟩ := rwalk_all P hF (i :: U) h
      (List.nodup_append.2 ⟨h1, by simp, fun a ha b hb => by rw [List.mem_singleton] at hb; subst hb; exact fun e => hny (e ▸ ha)⟩)
      (fun x hx => by
        rcases List.mem_append.1 hx with hx | hx
        · exact h2 x hx
        · rw [List.mem_singleton] at hx; subst hx; exact hPy)
      (by simp)
      (fun j hj => by
        rcases List.mem_cons.1 hj with rfl | hj
        · rcases hm with ⟨e1, e2⟩ | ⟨e1, e2⟩
          · exact ⟨List.mem_append.2 (.inl (e1 ▸ h3)), List.mem_append.2 (.inr (by rw [e2]; simp))⟩
          · exact ⟨List.mem_append.2 (.inr (by rw [e2]; simp)), List.mem_append.2 (.inl (e1 ▸ h3))⟩
        · exact ⟨List.mem_append.2 (.inl (h4 j hj).1), List.mem_append.2 (.inl (h4 j hj).2)⟩)
    refine ⟨g1, g2, List.nodup_cons.2 ⟨fun hm => g4 i hm (by simp), g3⟩, fun j hj => ?_⟩
    rcases List.mem_cons.1 hj with rfl | hj
    · exact hiU
    · exact fun hu => g4 j hj (List.mem_cons_of_mem _ hu)
/-- What is known of the nodes and fibers of a valid route. -/
theorem rnodes_facts {n : Network} {r : Route} {o : List Int} (hn : NetF n) (h : rnodes n r = some o) : o.Nodup ∧ (∀ x ∈ o, 0 ≤ x ∧ x < (n.Nodes.length : Int)) ∧ r.Fibers.Nodup ∧ r.Fibers.length ≤ 7 ∧ r.Fibers ≠ [] ∧ 0 ≤ r.Start ∧ r.Start < (n.Nodes.length : Int) := by
  have hl := rnodes_len h
  unfold rnodes at h
  split at h
  case isFalse => cases h
  rename_i hs
  obtain ⟨g1, g2, g3, _⟩ := rwalk_all (fun x => 0 ≤ x ∧ x < (n.Nodes.length : Int)) (fun f hf => by have := hn.each f hf; omega) [] h (by simp) (by simpa using hs.1) (by simp) (by simp)
  have := short_of _ _ g1 g2
  have := hn.hi
  exact ⟨g1, g2, g3, by omega, hs.2, hs.1⟩
end AT

