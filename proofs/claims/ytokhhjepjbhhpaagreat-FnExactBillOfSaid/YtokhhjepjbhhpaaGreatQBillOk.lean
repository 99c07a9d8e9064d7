/- What a bill is, plainly: both checks are one, and say: items fine, in order, not too many. -/
import Derived.Test.YtokhhjepjbhhpaaGreatQBill
set_option linter.unusedSimpArgs false
set_option linter.unusedVariables false
namespace AT
def it0 : Item := ⟨1, 0, 1⟩
def itOk (e : Item) : Bool := decide (1 ≤ e.Kind) && decide (e.Kind ≤ 4) && (decide (0 ≤ e.Node) && decide (e.Node ≤ 7)) && (decide (1 ≤ e.Count) && decide (e.Count ≤ 1000))
def itLt (a b : Item) : Bool := decide (a.Kind < b.Kind) || (a.Kind == b.Kind && decide (a.Node < b.Node))
def itKey (a : Item) : Int := w64 (w64 (a.Kind * 8) + a.Node)
def billBadS (l : List Item) (i : Nat) : Bool := !(itOk (gd l i it0)) || (decide (0 < i) && !(itLt (gd l (i - 1) it0) (gd l i it0)))
def billBadI (l : List Item) (i : Nat) : Bool := !(itOk (gd l i it0)) || (decide (0 < i) && decide (itKey (gd l (i - 1) it0) ≥ itKey (gd l i it0)))
def billOk (l : List Item) : Bool := !((List.range l.length).any (billBadS l)) && decide (l.length ≤ 32)
theorem before_eq (fu : Nat) (a b : Item) : spec_l19Before fu a b = some (itLt a b) := by
  unfold spec_l19Before itLt
  cases decide (a.Kind < b.Kind) <;> cases hk : (a.Kind == b.Kind) <;> simp [hk]
theorem bad_eq (l : List Item) : (List.range l.length).any (billBadI l) = (List.range l.length).any (billBadS l) := by
  by_cases hv : ∃ i, i < l.length ∧ itOk (gd l i it0) = false
  · obtain ⟨i, hi, hb⟩ := hv
    have h1 : (List.range l.length).any (billBadI l) = true := List.any_eq_true.2 ⟨i, List.mem_range.2 hi, by simp [billBadI, hb]⟩
    have h2 : (List.range l.length).any (billBadS l) = true := List.any_eq_true.2 ⟨i, List.mem_range.2 hi, by simp [billBadS, hb]⟩
    rw [h1, h2]
  · have hv' : ∀ i, i < l.length → itOk (gd l i it0) = true := fun i hi => by
      cases h : itOk (gd l i it0)
      · exact absurd ⟨i, hi, h⟩ hv
      · rfl
    have : ∀ i ∈ List.range l.length, billBadI l i = billBadS l i := fun i hi => by
      have hi' := List.mem_range.1 hi
      unfold billBadI billBadS
      by_cases h0 : 0 < i
      · have a1 := hv' i hi'
        have a2 := hv' (i - 1) (by omega)
        simp only [itOk, Bool.and_eq_true, decide_eq_true_eq] at a1 a2
        generalize gd l i it0 = x at a1
        generalize gd l (i - 1) it0 = y at a2
        have e1 : itKey x = x.Kind * 8 + x.Node := by
          unfold itKey; rw [w64_in (n := x.Kind * 8) (by omega) (by omega), w64_in (by omega) (by omega)]
        have e2 : itKey y = y.Kind * 8 + y.Node := by
          unfold itKey; rw [w64_in (n := y.Kind * 8) (by omega) (by omega), w64_in (by omega) (by omega)]
        rw [e1, e2]
        have e3 : decide (y.Kind * 8 + y.Node ≥ x.Kind * 8 + x.Node) = !itLt y x := by
          rw [Bool.eq_iff_iff]
          simp only [itLt, decide_eq_true_eq, Bool.not_eq_true', Bool.or_eq_false_iff, Bool.and_eq_false_iff, decide_eq_false_iff_not, beq_eq_false_iff_ne, ne_eq]
          omega
        rw [e3]
      · simp [h0]
    exact any_same this
theorem l19Bill_eq {fu : Nat} (l : List Item) (h : l.length < fu) (hn : l.length ≤ 2097152) : spec_l19Bill fu l = some (billOk l) := by
  unfold spec_l19Bill
  rw [scan_all (l := List.range l.length) (G := spec_l19Bill_L1 fu l) (billBadS l) (fun i => false) (by simp; omega)
    (fun fk i hi => by
      have hi' : i < l.length := by simpa using hi
      rw [spec_l19Bill_L1, if_pos (by simpa using hi'), idx_gd it0 hi', List.getElem_range]
      generalize hx : gd l i it0 = x
      obtain ⟨b1, h1⟩ : ∃ b, b = (decide (1 ≤ x.Kind) && decide (x.Kind ≤ 4)) := ⟨_, rfl⟩
      obtain ⟨b2, h2⟩ : ∃ b, b = (decide (0 ≤ x.Node) && decide (x.Node ≤ 7)) := ⟨_, rfl⟩
      obtain ⟨b3, h3⟩ : ∃ b, b = (decide (1 ≤ x.Count) && decide (x.Count ≤ 1000)) := ⟨_, rfl⟩
      simp only [Option.bind_some, l1In_eq, billBadS, itOk, hx, ← h1, ← h2, ← h3]
      cases b1
      · rfl
      cases b2
      · rfl
      cases b3
      · rfl
      by_cases h0 : 0 < i
      · rw [w64_dec h0 (by omega), idx_gd it0 (show i - 1 < l.length by omega)]
        simp [h0, before_eq]
      · simp [h0])
    (fun fk => by rw [List.length_range, spec_l19Bill_L1, if_neg (by simp)]) fu (by simpa using h)]
  unfold billOk
  have e : decide ((l.length : Int) ≤ 32) = decide (l.length ≤ 32) := by simp only [decide_eq_decide]; omega
  rw [← e]
  cases (List.range l.length).any (billBadS l) <;> rfl
theorem isBill_eq {fu : Nat} (l : List Item) (h : l.length < fu) (hn : l.length ≤ 2097152) : impl_isBill fu l = some (billOk l) := by
  unfold impl_isBill
  rw [scan_all (l := List.range l.length) (G := impl_isBill_L1 fu l) (billBadI l) (fun i => false) (by simp; omega)
    (fun fk i hi => by
      have hi' : i < l.length := by simpa using hi
      rw [impl_isBill_L1, if_pos (by simpa using hi'), idx_gd it0 hi', List.getElem_range]
      generalize hx : gd l i it0 = x
      obtain ⟨b1, h1⟩ : ∃ b, b = (decide (1 ≤ x.Kind) && decide (x.Kind ≤ 4)) := ⟨_, rfl⟩
      obtain ⟨b2, h2⟩ : ∃ b, b = (decide (0 ≤ x.Node) && decide (x.Node ≤ 7)) := ⟨_, rfl⟩
      obtain ⟨b3, h3⟩ : ∃ b, b = (decide (1 ≤ x.Count) && decide (x.Count ≤ 1000)) := ⟨_, rfl⟩
      simp only [Option.bind_some, within_eq, billBadI, itOk, hx, ← h1, ← h2, ← h3]
      cases b1
      · rfl
      cases b2
      · rfl
      cases b3
      · rfl
      by_cases h0 : 0 < i
      · rw [w64_dec h0 (by omega), idx_gd it0 (show i - 1 < l.length by omega)]
        simp [h0, itKey]
      · simp [h0])
    (fun fk => by rw [List.length_range, impl_isBill_L1, if_neg (by simp)]) fu (by simpa using h)]
  rw [bad_eq]
  unfold billOk
  have e : decide ((l.length : Int) ≤ 32) = decide (l.length ≤ 32) := by simp only [decide_eq_decide]; omega
  rw [← e]
  cases (List.range l.length).any (billBadS l) <;> rfl
theorem itOk_iff {e : Item} : itOk e = true ↔ (1 ≤ e.Kind ∧ e.Kind ≤ 4) ∧ (0 ≤ e.Node ∧ e.Node ≤ 7) ∧ (1 ≤ e.Count ∧ e.Count ≤ 1000) := by
  simp only [itOk, Bool.and_eq_true, decide_eq_true_eq]
  constructor
  · rintro ⟨⟨h1, h2⟩, h3⟩; exact ⟨h1, h2, h3⟩
  · rintro ⟨h1, h2, h3⟩; exact ⟨⟨h1, h2⟩, h3⟩
theorem itLt_iff {a b : Item} (ha0 : 0 ≤ a.Node) (ha : a.Node ≤ 7) (hb0 : 0 ≤ b.Node) (hb : b.Node ≤ 7) : itLt a b = true ↔ key a < key b := by
  simp only [itLt, Bool.or_eq_true, Bool.and_eq_true, decide_eq_true_eq, beq_iff_eq, key]
  omega
theorem gd_cons {α : Type} (e : α) (l : List α) (i : Nat) (d : α) : gd (e :: l) (i + 1) d = gd l i d := rfl
theorem SP_of_adj : ∀ (l : List Item) (lo : Int), (∀ i, i < l.length → itOk (gd l i it0) = true) → (∀ i, 0 < i → i < l.length → key (gd l (i - 1) it0) < key (gd l i it0)) → (0 < l.length → lo ≤ key (gd l 0 it0)) → SP lo l
  | [], _, _, _, _ => trivial
  | e :: l, lo, h1, h2, h3 => by
    have he := itOk_iff.1 (h1 0 (by simp))
    refine ⟨h3 (by simp), he.2.1.1, he.2.1.2, he.2.2.1, SP_of_adj l _ (fun i hi => h1 (i + 1) (by simpa using hi)) (fun i h0 hi => ?_) (fun h0 => ?_)⟩
    · have := h2 (i + 1) (by omega) (by simpa using hi)
      rw [Nat.add_sub_cancel] at this
      obtain ⟨j, rfl⟩ := Nat.exists_eq_succ_of_ne_zero (by omega : i ≠ 0)
      exact this
    · have := h2 1 (by omega) (by simpa using h0)
      exact this
theorem SP_adj : ∀ (l : List Item) (lo : Int), SP lo l → ∀ i, 0 < i → i < l.length → key (gd l (i - 1) it0) < key (gd l i it0)
  | [], _, _, i, _, hi => by simp at hi
  | e :: l, lo, h, i, h0, hi => by
    obtain ⟨j, rfl⟩ := Nat.exists_eq_succ_of_ne_zero (by omega : i ≠ 0)
    cases j with
    | zero =>
      cases l with
      | nil => simp at hi
      | cons e2 l =>
        have := h.2.2.2.2.1
        show key e < key e2
        omega
    | succ j =>
      have := SP_adj l _ h.2.2.2.2 (j + 1) (by omega) (by simpa using hi)
      exact this
theorem billOk_iff {l : List Item} : billOk l = true ↔ (∀ e ∈ l, itOk e = true) ∧ SP 8 l ∧ l.length ≤ 32 := by
  unfold billOk
  simp only [Bool.and_eq_true, Bool.not_eq_true', List.any_eq_false, List.mem_range, decide_eq_true_eq]
  constructor
  · rintro ⟨h1, h2⟩
    have hok : ∀ i, i < l.length → itOk (gd l i it0) = true := fun i hi => by
      have := h1 i hi
      simp only [billBadS, Bool.or_eq_true, not_or, Bool.not_eq_true', Bool.not_eq_false] at this
      exact this.1
    refine ⟨fun e he => ?_, SP_of_adj l 8 hok (fun i h0 hi => ?_) (fun h0 => ?_), h2⟩
    · obtain ⟨i, hi, rfl⟩ := List.getElem_of_mem he
      have := hok i hi
      rwa [gd_in it0 hi] at this
    · have := h1 i hi
      simp only [billBadS, Bool.or_eq_true, not_or, Bool.and_eq_true, decide_eq_true_eq, not_and] at this
      have h3 := this.2 h0
      have p1 := itOk_iff.1 (hok i hi)
      have p2 := itOk_iff.1 (hok (i - 1) (by omega))
      exact (itLt_iff p2.2.1.1 p2.2.1.2 p1.2.1.1 p1.2.1.2).1 (by simpa using h3)
    · have p1 := itOk_iff.1 (hok 0 h0)
      unfold key
      generalize gd l 0 it0 = u at p1 ⊢
      omega
  · rintro ⟨h1, h2, h3⟩
    refine ⟨fun i hi => ?_, h3⟩
    have hok : ∀ i, i < l.length → itOk (gd l i it0) = true := fun i hi => by rw [gd_in it0 hi]; exact h1 _ (List.getElem_mem hi)
    have p1 := itOk_iff.1 (hok i hi)
    unfold billBadS
    rw [hok i hi]
    by_cases h0 : 0 < i
    · have p2 := itOk_iff.1 (hok (i - 1) (by omega))
      rw [(itLt_iff p2.2.1.1 p2.2.1.2 p1.2.1.1 p1.2.1.2).2 (SP_adj l 8 h2 i h0 hi)]
      simp
    · simp [h0]
theorem cnt_hi : ∀ {l : List Item} {k : Int}, (∀ e ∈ l, itOk e = true) → 40 ≤ k → cnt l k = 0
  | [], _, _, _ => rfl
  | e :: l, k, h, hk => by
    have he := itOk_iff.1 (h e (by simp))
    unfold cnt
    rw [if_neg (by unfold key; omega), cnt_hi (fun x hx => h x (by simp [hx])) hk]; rfl
theorem cnt_le : ∀ {l : List Item} (k : Int), (∀ e ∈ l, itOk e = true) → 0 ≤ cnt l k ∧ cnt l k ≤ 1000 * (l.length : Int)
  | [], _, _ => ⟨Int.le_refl _, by simp [cnt]⟩
  | e :: l, k, h => by
    have he := itOk_iff.1 (h e (by simp))
    have := cnt_le (l := l) k fun x hx => h x (List.mem_cons_of_mem _ hx)
    unfold cnt
    simp only [List.length_cons]
    split <;> omega
end AT
