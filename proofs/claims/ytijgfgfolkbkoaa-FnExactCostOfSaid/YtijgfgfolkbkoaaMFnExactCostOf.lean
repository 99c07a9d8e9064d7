/- CostOf: the program's and the reference's are one. -/
import Derived.Test.YtijgfgfolkbkoaaP1
import Derived.Test.YtijgfgfolkbkoaaH
set_option linter.unusedSimpArgs false
namespace AT
def it0 : Item := ⟨1, 0, 1⟩
def itOk (e : Item) : Bool := decide (1 ≤ e.Kind) && decide (e.Kind ≤ 4) && (decide (0 ≤ e.Node) && decide (e.Node ≤ 7)) && (decide (1 ≤ e.Count) && decide (e.Count ≤ 1000))
def itLt (a b : Item) : Bool := decide (a.Kind < b.Kind) || (a.Kind == b.Kind && decide (a.Node < b.Node))
def itKey (a : Item) : Int := w64 (w64 (a.Kind * 8) + a.Node)
def billBadS (l : List Item) (i : Nat) : Bool := !(itOk (gd l i it0)) || (decide (0 < i) && !(itLt (gd l (i - 1) it0) (gd l i it0)))
def billBadI (l : List Item) (i : Nat) : Bool := !(itOk (gd l i it0)) || (decide (0 < i) && decide (itKey (gd l (i - 1) it0) ≥ itKey (gd l i it0)))
def billOk (l : List Item) : Bool := !((List.range l.length).any (billBadS l)) && decide (l.length ≤ 32)
theorem before_eq (fu : Nat) (a b : Item) : spec_l19Before fu a b = some (itLt a b) := by
  unfold spec_l19Before itLt
  cases decide (a.Kind < b.Kind) <;> cases hk : (a.Kind == b.Kind) <;> simp [hk]
theorem bad_eq (l : List Item) : (List.range l.length).any (billBadI l) = (List.range l.length).any (billBadS l) := by
  by_cases hv : ∃ i, i < l.length ∧ itOk (gd l i it0) = false
  · obtain ⟨i, hi, hb⟩ := hv
    have h1 : (List.range l.length).any (billBadI l) = true := List.any_eq_true.2 ⟨i, List.mem_range.2 hi, by simp [billBadI, hb]⟩
    have h2 : (List.range l.length).any (billBadS l) = true := List.any_eq_true.2 ⟨i, List.mem_range.2 hi, by simp [billBadS, hb]⟩
    rw [h1, h2]
  · have hv' : ∀ i, i < l.length → itOk (gd l i it0) = true := fun i hi => by
      cases h : itOk (gd l i it0)
      · exact absurd ⟨i, hi, h⟩ hv
      · rfl
    have : ∀ i ∈ List.range l.length, billBadI l i = billBadS l i := fun i hi => by
      have hi' := List.mem_range.1 hi
      unfold billBadI billBadS
      by_cases h0 : 0 < i
      · have a1 := hv' i hi'
        have a2 := hv' (i - 1) (by omega)
        simp only [itOk, Bool.and_eq_true, decide_eq_true_eq] at a1 a2
        generalize gd l i it0 = x at a1
        generalize gd l (i - 1) it0 = y at a2
        have e1 : itKey x = x.Kind * 8 + x.Node := by
          unfold itKey; rw [w64_in (n := x.Kind * 8) (by omega) (by omega), w64_in (by omega) (by omega)]
        have e2 : itKey y = y.Kind * 8 + y.Node := by
          unfold itKey; rw [w64_in (n := y.Kind * 8) (by omega) (by omega), w64_in (by omega) (by omega)]
        rw [e1, e2]
        have e3 : decide (y.Kind * 8 + y.Node ≥ x.Kind * 8 + x.Node) = !itLt y x := by
          rw [Bool.eq_iff_iff]
          simp only [itLt, decide_eq_true_eq, Bool.not_eq_true', Bool.or_eq_false_iff, Bool.and_eq_false_iff, decide_eq_false_iff_not, beq_eq_false_iff_ne, ne_eq]
          omega
        rw [e3]
      · simp [h0]
    exact any_same this
theorem l19Bill_eq {fu : Nat} (l : List Item) (h : l.length < fu) (hn : l.length ≤ 2097152) : spec_l19Bill fu l = some (billOk l) := by
  unfold spec_l19Bill
  rw [scan_all (l := List.range l.length) (G := spec_l19Bill_L1 fu l) (billBadS l) (fun i => false) (by simp; omega)
    (fun fk i hi => by
      have hi' : i < l.length := by simpa using hi
      rw [spec_l19Bill_L1, if_pos (by simpa using hi'), idx_gd it0 hi', List.getElem_range]
      generalize hx : gd l i it0 = x
      obtain ⟨b1, h1⟩ : ∃ b, b = (decide (1 ≤ x.Kind) && decide (x.Kind ≤ 4)) := ⟨_, rfl⟩
      obtain ⟨b2, h2⟩ : ∃ b, b = (decide (0 ≤ x.Node) && decide (x.Node ≤ 7)) := ⟨_, rfl⟩
      obtain ⟨b3, h3⟩ : ∃ b, b = (decide (1 ≤ x.Count) && decide (x.Count ≤ 1000)) := ⟨_, rfl⟩
      simp only [Option.bind_some, l1In_eq, billBadS, itOk, hx, ← h1, ← h2, ← h3]
      cases b1
      · rfl
      cases b2
      · rfl
      cases b3
      · rfl
      by_cases h0 : 0 < i
      · rw [w64_dec h0 (by omega), idx_gd it0 (show i - 1 < l.length by omega)]
        simp [h0, before_eq]
      · simp [h0])
    (fun fk => by rw [List.length_range, spec_l19Bill_L1, if_neg (by simp)]) fu (by simpa using h)]
  unfold billOk
  have e : decide ((l.length : Int) ≤ 32) = decide (l.length ≤ 32) := by simp only [decide_eq_decide]; omega
  rw [← e]
  cases (List.range l.length).any (billBadS l) <;> rfl
theorem isBill_eq {fu : Nat} (l : List Item) (h : l.length < fu) (hn : l.length ≤ 2097152) : impl_isBill fu l = some (billOk l) := by
  unfold impl_isBill
  rw [scan_all (l := List.range l.length) (G := impl_isBill_L1 fu l) (billBadI l) (fun i => false) (by simp; omega)
    (fun fk i hi => by
      have hi' : i < l.length := by simpa using hi
      rw [impl_isBill_L1, if_pos (by simpa using hi'), idx_gd it0 hi', List.getElem_range]
      generalize hx : gd l i it0 = x
      obtain ⟨b1, h1⟩ : ∃ b, b = (decide (1 ≤ x.Kind) && decide (x.Kind ≤ 4)) := ⟨_, rfl⟩
      obtain ⟨b2, h2⟩ : ∃ b, b = (decide (0 ≤ x.Node) && decide (x.Node ≤ 7)) := ⟨_, rfl⟩
      obtain ⟨b3, h3⟩ : ∃ b, b = (decide (1 ≤ x.Count) && decide (x.Count ≤ 1000)) := ⟨_, rfl⟩
      simp only [Option.bind_some, within_eq, billBadI, itOk, hx, ← h1, ← h2, ← h3]
      cases b1
      · rfl
      cases b2
      · rfl
      cases b3
      · rfl
      by_cases h0 : 0 < i
      · rw [w64_dec h0 (by omega), idx_gd it0 (show i - 1 < l.length by omega)]
        simp [h0, itKey]
      · simp [h0])
    (fun fk => by rw [List.length_range, impl_isBill_L1, if_neg (by simp)]) fu (by simpa using h)]
  rw [bad_eq]
  unfold billOk
  have e : decide ((l.length : Int) ≤ 32) = decide (l.length ≤ 32) := by simp only [decide_eq_decide]; omega
  rw [← e]
  cases (List.range l.length).any (billBadS l) <;> rfl
def priceOk (p : Int) : Bool := decide (0 ≤ p) && decide (p ≤ 100000)
theorem contains_eq {fu : Nat} (l : List Int) (h : l.length < fu) (hn : l.length ≤ 2097152) : slices_ContainsFunc_int_int_of_CostOf_c1 fu l = some (l.any fun p => !priceOk p) := by
  unfold slices_ContainsFunc_int_int_of_CostOf_c1 slices_IndexFunc_int_int_of_CostOf_c1
  rw [scan_all (l := l) (G := slices_IndexFunc_int_int_of_CostOf_c1_L1 fu l) (fun p => !priceOk p) (fun i => (i : Int)) (by omega)
    (fun fk i hi => by rw [slices_IndexFunc_int_int_of_CostOf_c1_L1, if_pos (by simpa using hi), idx_in hi]; simp [impl_CostOf_c1, priceOk])
    (fun fk => by rw [slices_IndexFunc_int_int_of_CostOf_c1_L1, if_neg (by simp)]) fu h]
  cases l.any fun p => !priceOk p <;> simp [Out.on]
theorem price_loop {fu : Nat} (l : List Int) (hl : l.length = 4) (h : 4 < fu) : spec_CostOf_L1 fu l fu 0 = some (if l.any (fun p => !priceOk p) then .ret (0, false) else .next 4) := by
  have := scan_all (l := l) (G := spec_CostOf_L1 fu l) (fun p => !priceOk p) (fun i => ((0 : Int), false)) (by omega)
    (fun fk i hi => by
      rw [spec_CostOf_L1, if_pos (by simp; omega), idx_in hi]; simp only [l1In_eq, Option.bind_some, priceOk]; rfl)
    (fun fk => by rw [hl, spec_CostOf_L1, if_neg (by simp)]) fu (by omega)
  rw [this, hl]; rfl
theorem cost_loop {fu fu' : Nat} (l : List Item) (ps : List Int) : ∀ (fk : Nat) (s i : Int), spec_CostOf_L2 fu l ps fk s i = impl_CostOf_L1 fu' l ps fk s i
  | 0, _, _ => rfl
  | fk + 1, s, i => by
    rw [spec_CostOf_L2, impl_CostOf_L1]
    cases idx l i with
    | none => rfl
    | some e => simp only [Option.bind_some, cost_loop (fu := fu) (fu' := fu') l ps fk]
theorem cost_some {fu : Nat} (l : List Item) (ps : List Int) (hp : ps.length = 4) (hk : ∀ e ∈ l, 1 ≤ e.Kind ∧ e.Kind ≤ 4) (hn : l.length ≤ 2097152) : ∀ (fk i : Nat) (s : Int), i ≤ l.length → l.length - i < fk → ∃ r, impl_CostOf_L1 fu l ps fk s i = some r := by
  intro fk
  induction fk with
  | zero => intro i s _ h; omega
  | succ fk ih =>
    intro i s hi hk'
    rw [impl_CostOf_L1]
    by_cases h : i < l.length
    · rw [if_pos (by simpa using h), idx_in h, Option.bind_some]
      obtain ⟨k1, k2⟩ := hk _ (List.getElem_mem h)
      rw [w64_in (by omega) (by omega)]
      obtain ⟨p, hp', -⟩ := idx_some (l := ps) (i := l[i].Kind - 1) (by omega) (by omega)
      rw [hp', Option.bind_some, w64_inc h (by omega)]
      exact ih _ _ h (by omega)
    · obtain rfl : i = l.length := by omega
      rw [if_neg (by simp)]
      exact ⟨_, rfl⟩
theorem main_FnExactCostOf {fu : Nat} (hfu : 2097153 ≤ fu) {x0 : List Item} {x1 : List Int} (_ : ok_ItemS x0) (_ : ok_IntS x1) (b0 : B_ItemS x0) (b1 : B_IntS x1) : ∃ w, spec_CostOf fu x0 x1 = some w ∧ impl_CostOf fu x0 x1 = some w := by
  have h0 := b0.1
  have h1 := b1.1
  unfold spec_CostOf impl_CostOf
  rw [l19Bill_eq x0 (by omega) h0, isBill_eq x0 (by omega) h0]
  simp only [Option.bind_some]
  cases hb : billOk x0
  · exact ⟨_, rfl, rfl⟩
  · simp only [Bool.not_true, Bool.false_eq_true, if_false, Option.bind_some]
    by_cases hl : x1.length = 4
    · have e : ((x1.length : Int) != 4) = false := by simp; omega
      rw [e, contains_eq x1 (by omega) h1, price_loop x1 hl (by omega)]
      simp only [Option.bind_some, Bool.false_eq_true, if_false]
      cases x1.any fun p => !priceOk p
      · simp only [Bool.false_eq_true, if_false, Out.on]
        have hk : ∀ e ∈ x0, 1 ≤ e.Kind ∧ e.Kind ≤ 4 := fun e he => by
          unfold billOk at hb
          simp only [Bool.and_eq_true, Bool.not_eq_true', List.any_eq_false, List.mem_range] at hb
          obtain ⟨i, hi, rfl⟩ := List.getElem_of_mem he
          have := hb.1 i hi
          simp only [billBadS, Bool.or_eq_true, not_or] at this
          have h3 := this.1
          rw [gd_in it0 hi] at h3
          simp only [itOk, Bool.not_eq_true', Bool.not_eq_false, Bool.and_eq_true, decide_eq_true_eq] at h3
          exact ⟨h3.1.1.1, h3.1.1.2⟩
        obtain ⟨r, hr⟩ := cost_some (fu := fu) x0 x1 hl hk h0 fu 0 0 (by omega) (by omega)
        rw [Int.ofNat_zero] at hr
        rw [cost_loop (fu' := fu), hr]
        exact ⟨_, rfl, rfl⟩
      · exact ⟨_, rfl, rfl⟩
    · have e : ((x1.length : Int) != 4) = true := by simp; omega
      rw [e]
      exact ⟨_, rfl, rfl⟩
end AT
