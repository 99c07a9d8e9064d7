/- Bills as sums: a bill in order is told by its counts. -/
import Derived.Test.YtkjhklpdcoicdaaGreatP1
import Derived.Test.YtkjhklpdcoicdaaGreatAtL
set_option linter.unusedSimpArgs false
set_option linter.unusedVariables false
namespace AT
def key (e : Item) : Int := e.Kind * 8 + e.Node
def cnt : List Item → Int → Int
  | [], _ => 0
  | e :: l, k => (if key e = k then e.Count else 0) + cnt l k
def SP : Int → List Item → Prop
  | _, [] => True
  | lo, e :: l => lo ≤ key e ∧ 0 ≤ e.Node ∧ e.Node ≤ 7 ∧ 1 ≤ e.Count ∧ SP (key e + 1) l
theorem SP.mono : ∀ {l : List Item} {lo lo' : Int}, SP lo l → lo' ≤ lo → SP lo' l
  | [], _, _, _, _ => trivial
  | e :: l, lo, lo', h, h' => ⟨Int.le_trans h' h.1, h.2⟩
theorem cnt_lo : ∀ {l : List Item} {lo k : Int}, SP lo l → k < lo → cnt l k = 0
  | [], _, _, _, _ => rfl
  | e :: l, lo, k, h, hk => by
    have h1 := h.1
    unfold cnt
    rw [if_neg (by omega), cnt_lo h.2.2.2.2 (by omega)]; rfl
theorem cnt_nonneg : ∀ {l : List Item} {lo : Int} (k : Int), SP lo l → 0 ≤ cnt l k
  | [], _, _, _ => Int.le_refl _
  | e :: l, lo, k, h => by
    have h1 := h.2.2.2.1
    have := cnt_nonneg k h.2.2.2.2
    unfold cnt
    split <;> omega
theorem cnt_head {e : Item} {l : List Item} {lo : Int} (h : SP lo (e :: l)) : cnt (e :: l) (key e) = e.Count := by
  unfold cnt
  rw [if_pos rfl, cnt_lo h.2.2.2.2 (by omega)]; omega
theorem uniq : ∀ (l1 l2 : List Item) (lo : Int), SP lo l1 → SP lo l2 → (∀ k, cnt l1 k = cnt l2 k) → l1 = l2
  | [], [], _, _, _, _ => rfl
  | [], e :: l, lo, _, h2, hc => by
    have h3 := hc (key e)
    rw [cnt_head h2] at h3
    have h4 := h2.2.2.2.1
    have : cnt [] (key e) = 0 := rfl
    omega
  | e :: l, [], lo, h1, _, hc => by
    have h3 := hc (key e)
    rw [cnt_head h1] at h3
    have h4 := h1.2.2.2.1
    have : cnt [] (key e) = 0 := rfl
    omega
  | e1 :: l1, e2 :: l2, lo, h1, h2, hc => by
    have p1 := h1.2.2.2.1
    have p2 := h2.2.2.2.1
    have hk : key e1 = key e2 := by
      rcases Int.lt_trichotomy (key e1) (key e2) with h | h | h
      · have h3 := hc (key e1)
        rw [cnt_head h1, cnt_lo (l := e2 :: l2) (lo := key e2) ⟨Int.le_refl _, h2.2⟩ h] at h3
        omega
      · exact h
      · have h3 := hc (key e2)
        rw [cnt_head h2, cnt_lo (l := e1 :: l1) (lo := key e1) ⟨Int.le_refl _, h1.2⟩ h] at h3
        omega
    have hcount : e1.Count = e2.Count := by
      have h3 := hc (key e1)
      rw [cnt_head h1, hk, cnt_head h2] at h3
      exact h3
    have he : e1 = e2 := by
      obtain ⟨k1, n1, c1⟩ := e1
      obtain ⟨k2, n2, c2⟩ := e2
      have a1 := h1.2.1
      have a2 := h1.2.2.1
      have a3 := h2.2.1
      have a4 := h2.2.2.1
      simp only [key] at hk hcount a1 a2 a3 a4
      have : k1 = k2 := by omega
      have : n1 = n2 := by omega
      simp_all
    subst he
    rw [uniq l1 l2 (key e1 + 1) h1.2.2.2.2 h2.2.2.2.2 fun k => by
      have h3 := hc k
      unfold cnt at h3
      omega]
theorem SP_snoc : ∀ {l : List Item} {lo : Int} {z : Item}, SP lo l → (∀ e ∈ l, key e < key z) → lo ≤ key z → 0 ≤ z.Node → z.Node ≤ 7 → 1 ≤ z.Count → SP lo (l ++ [z])
  | [], _, _, _, _, h1, h2, h3, h4 => ⟨h1, h2, h3, h4, trivial⟩
  | e :: l, lo, z, h, hk, h1, h2, h3, h4 => ⟨h.1, h.2.1, h.2.2.1, h.2.2.2.1, SP_snoc h.2.2.2.2 (fun x hx => hk x (by simp [hx])) (by have := hk e (by simp); omega) h2 h3 h4⟩
theorem cnt_snoc : ∀ (l : List Item) (z : Item) (k : Int), cnt (l ++ [z]) k = cnt l k + if key z = k then z.Count else 0
  | [], z, k => by simp [cnt]
  | e :: l, z, k => by
    show (if key e = k then e.Count else 0) + cnt (l ++ [z]) k = _
    rw [cnt_snoc l z k]
    show _ = (if key e = k then e.Count else 0) + cnt l k + _
    omega
def ins (x : Item) : List Item → List Item
  | [] => [x]
  | e :: l => if key e < key x then e :: ins x l else if key e = key x then ⟨x.Kind, x.Node, x.Count + e.Count⟩ :: l else x :: e :: l
theorem SP_ins {x : Item} (hn0 : 0 ≤ x.Node) (hn : x.Node ≤ 7) (hc : 1 ≤ x.Count) : ∀ {l : List Item} {lo : Int}, SP lo l → lo ≤ key x → SP lo (ins x l)
  | [], lo, _, h => ⟨h, hn0, hn, hc, trivial⟩
  | e :: l, lo, h, hx => by
    have h4 := h.2.2.2.1
    unfold ins
    split
    · rename_i hlt
      exact ⟨h.1, h.2.1, h.2.2.1, h.2.2.2.1, SP_ins hn0 hn hc h.2.2.2.2 (by omega)⟩
    · split
      · rename_i heq
        have hk : key ⟨x.Kind, x.Node, x.Count + e.Count⟩ = key x := rfl
        exact ⟨by rw [hk]; exact hx, hn0, hn, by simp only; omega, by rw [hk, ← heq]; exact h.2.2.2.2⟩
      · exact ⟨hx, hn0, hn, hc, by omega, h.2⟩
theorem cnt_ins (x : Item) : ∀ (l : List Item) (k : Int), cnt (ins x l) k = cnt l k + if key x = k then x.Count else 0
  | [], k => by simp [ins, cnt]
  | e :: l, k => by
    unfold ins
    split
    · show (if key e = k then e.Count else 0) + cnt (ins x l) k = _
      rw [cnt_ins x l k]
      show _ = (if key e = k then e.Count else 0) + cnt l k + _
      omega
    · split
      · rename_i heq
        show (if key x = k then x.Count + e.Count else 0) + cnt l k = (if key e = k then e.Count else 0) + cnt l k + _
        rw [heq]
        split <;> omega
      · show (if key x = k then x.Count else 0) + ((if key e = k then e.Count else 0) + cnt l k) = (if key e = k then e.Count else 0) + cnt l k + _
        omega
theorem ins_len (x : Item) : ∀ (l : List Item), (ins x l).length ≤ l.length + 1
  | [] => by simp [ins]
  | e :: l => by
    unfold ins
    have := ins_len x l
    split
    · simp only [List.length_cons]; omega
    · split <;> simp only [List.length_cons] <;> omega
theorem ins_at (x : Item) : ∀ (l : List Item), ins x l = l.take (l.findIdx fun e => decide (¬ key e < key x)) ++ (match l.drop (l.findIdx fun e => decide (¬ key e < key x)) with | [] => [x] | e :: r => if key e = key x then ⟨x.Kind, x.Node, x.Count + e.Count⟩ :: r else x :: e :: r)
  | [] => rfl
  | e :: l => by
    unfold ins
    by_cases h : key e < key x
    · rw [if_pos h, ins_at x l, List.findIdx_cons]
      simp [h]
    · rw [if_neg h, List.findIdx_cons]
      simp [h]
end AT

namespace AT
def it0 : Item := ⟨1, 0, 1⟩
def itOk (e : Item) : Bool := decide (1 ≤ e.Kind) && decide (e.Kind ≤ 4) && (decide (0 ≤ e.Node) && decide (e.Node ≤ 7)) && (decide (1 ≤ e.Count) && decide (e.Count ≤ 1000))
def itLt (a b : Item) : Bool := decide (a.Kind < b.Kind) || (a.Kind == b.Kind && decide (a.Node < b.Node))
def itKey (a : Item) : Int := w64 (w64 (a.Kind * 8) + a.Node)
def billBadS (l : List Item) (i : Nat) : Bool := !(itOk (gd l i it0)) || (decide (0 < i) && !(itLt (gd l (i - 1) it0) (gd l i it0)))
def billBadI (l : List Item) (i : Nat) : Bool := !(itOk (gd l i it0)) || (decide (0 < i) && decide (itKey (gd l (i - 1) it0) ≥ itKey (gd l i it0)))
def billOk (l : List Item) : Bool := !((List.range l.length).any (billBadS l)) && decide (l.length ≤ 32)
theorem before_eq (fu : Nat) (a b : Item) : spec_l19Before fu a b = some (itLt a b) := by
  unfold spec_l19Before itLt
  cases decide (a.Kind < b.Kind) <;> cases hk : (a.Kind == b.Kind) <;> simp [hk]
theorem bad_eq (l : List Item) : (List.range l.length).any (billBadI l) = (List.range l.length).any (billBadS l) := by
  by_cases hv : ∃ i, i < l.length ∧ itOk (gd l i it0) = false
  · obtain ⟨i, hi, hb⟩ := hv
    have h1 : (List.range l.length).any (billBadI l) = true := List.any_eq_true.2 ⟨i, List.mem_range.2 hi, by simp [billBadI, hb]⟩
    have h2 : (List.range l.length).any (billBadS l) = true := List.any_eq_true.2 ⟨i, List.mem_range.2 hi, by simp [billBadS, hb]⟩
    rw [h1, h2]
  · have hv' : ∀ i, i < l.length → itOk (gd l i it0) = true := fun i hi => by
      cases h : itOk (gd l i it0)
      · exact absurd ⟨i, hi, h⟩ hv
      · rfl
    have : ∀ i ∈ List.range l.length, billBadI l i = billBadS l i := fun i hi => by
      have hi' := List.mem_range.1 hi
      unfold billBadI billBadS
      by_cases h0 : 0 < i
      · have a1 := hv' i hi'
        have a2 := hv' (i - 1) (by omega)
        simp only [itOk, Bool.and_eq_true, decide_eq_true_eq] at a1 a2
        generalize gd l i it0 = x at a1
        generalize gd l (i - 1) it0 = y at a2
        have e1 : itKey x = x.Kind * 8 + x.Node := by
          unfold itKey; rw [w64_in (n := x.Kind * 8) (by omega) (by omega), w64_in (by omega) (by omega)]
        have e2 : itKey y = y.Kind * 8 + y.Node := by
          unfold itKey; rw [w64_in (n := y.Kind * 8) (by omega) (by omega), w64_in (by omega) (by omega)]
        rw [e1, e2]
        have e3 : decide (y.Kind * 8 + y.Node ≥ x.Kind * 8 + x.Node) = !itLt y x := by
          rw [Bool.eq_iff_iff]
          simp only [itLt, decide_eq_true_eq, Bool.not_eq_true', Bool.or_eq_false_iff, Bool.and_eq_false_iff, decide_eq_false_iff_not, beq_eq_false_iff_ne, ne_eq]
          omega
        rw [e3]
      · simp [h0]
    exact any_same this
theorem l19Bill_eq {fu : Nat} (l : List Item) (h : l.length < fu) (hn : l.length ≤ 2097152) : spec_l19Bill fu l = some (billOk l) := by
  unfold spec_l19Bill
  rw [scan_all (l := List.range l.length) (G := spec_l19Bill_L1 fu l) (billBadS l) (fun i => false) (by simp; omega)
    (fun fk i hi => by
      have hi' : i < l.length := by simpa using hi
      rw [spec_l19Bill_L1, if_pos (by simpa using hi'), idx_gd it0 hi', List.getElem_range]
      generalize hx : gd l i it0 = x
      obtain ⟨b1, h1⟩ : ∃ b, b = (decide (1 ≤ x.Kind) && decide (x.Kind ≤ 4)) := ⟨_, rfl⟩
      obtain ⟨b2, h2⟩ : ∃ b, b = (decide (0 ≤ x.Node) && decide (x.Node ≤ 7)) := ⟨_, rfl⟩
      obtain ⟨b3, h3⟩ : ∃ b, b = (decide (1 ≤ x.Count) && decide (x.Count ≤ 1000)) := ⟨_, rfl⟩
      simp only [Option.bind_some, l1In_eq, billBadS, itOk, hx, ← h1, ← h2, ← h3]
      cases b1
      · rfl
      cases b2
      · rfl
      cases b3
      · rfl
      by_cases h0 : 0 < i
      · rw [w64_dec h0 (by omega), idx_gd it0 (show i - 1 < l.length by omega)]
        simp [h0, before_eq]
      · simp [h0])
    (fun fk => by rw [List.length_range, spec_l19Bill_L1, if_neg (by simp)]) fu (by simpa using h)]
  unfold billOk
  have e : decide ((l.length : Int) ≤ 32) = decide (l.length ≤ 32) := by simp only [decide_eq_decide]; omega
  rw [← e]
  cases (List.range l.length).any (billBadS l) <;> rfl
theorem isBill_eq {fu : Nat} (l : List Item) (h : l.length < fu) (hn : l.length ≤ 2097152) : impl_isBill fu l = some (billOk l) := by
  unfold impl_isBill
  rw [scan_all (l := List.range l.length) (G := impl_isBill_L1 fu l) (billBadI l) (fun i => false) (by simp; omega)
    (fun fk i hi => by
      have hi' : i < l.length := by simpa using hi
      rw [impl_isBill_L1, if_pos (by simpa using hi'), idx_gd it0 hi', List.getElem_range]
      generalize hx : gd l i it0 = x
      obtain ⟨b1, h1⟩ : ∃ b, b = (decide (1 ≤ x.Kind) && decide (x.Kind ≤ 4)) := ⟨_, rfl⟩
      obtain ⟨b2, h2⟩ : ∃ b, b = (decide (0 ≤ x.Node) && decide (x.Node ≤ 7)) := ⟨_, rfl⟩
      obtain ⟨b3, h3⟩ : ∃ b, b = (decide (1 ≤ x.Count) && decide (x.Count ≤ 1000)) := ⟨_, rfl⟩
      simp only [Option.bind_some, within_eq, billBadI, itOk, hx, ← h1, ← h2, ← h3]
      cases b1
      · rfl
      cases b2
      · rfl
      cases b3
      · rfl
      by_cases h0 : 0 < i
      · rw [w64_dec h0 (by omega), idx_gd it0 (show i - 1 < l.length by omega)]
        simp [h0, itKey]
      · simp [h0])
    (fun fk => by rw [List.length_range, impl_isBill_L1, if_neg (by simp)]) fu (by simpa using h)]
  rw [bad_eq]
  unfold billOk
  have e : decide ((l.length : Int) ≤ 32) = decide (l.length ≤ 32) := by simp only [decide_eq_decide]; omega
  rw [← e]
  cases (List.range l.length).any (billBadS l) <;> rfl
theorem itOk_iff {e : Item} : itOk e = true ↔ (1 ≤ e.Kind ∧ e.Kind ≤ 4) ∧ (0 ≤ e.Node ∧ e.Node ≤ 7) ∧ (1 ≤ e.Count ∧ e.Count ≤ 1000) := by
  simp only [itOk, Bool.and_eq_true, decide_eq_true_eq]
  constructor
  · rintro ⟨⟨h1, h2⟩, h3⟩; exact ⟨h1, h2, h3⟩
  · rintro ⟨h1, h2, h3⟩; exact ⟨⟨h1, h2⟩, h3⟩
theorem itLt_iff {a b : Item} (ha0 : 0 ≤ a.Node) (ha : a.Node ≤ 7) (hb0 : 0 ≤ b.Node) (hb : b.Node ≤ 7) : itLt a b = true ↔ key a < key b := by
  simp only [itLt, Bool.or_eq_true, Bool.and_eq_true, decide_eq_true_eq, beq_iff_eq, key]
  omega
theorem SP_of_adj : ∀ (l : List Item) (lo : Int), (∀ i, i < l.length → itOk (gd l i it0) = true) → (∀ i, 0 < i → i < l.length → key (gd l (i - 1) it0) < key (gd l i it0)) → (0 < l.length → lo ≤ key (gd l 0 it0)) → SP lo l
  | [], _, _, _, _ => trivial
  | e :: l, lo, h1, h2, h3 => by
    have he := itOk_iff.1 (h1 0 (by simp))
    refine ⟨h3 (by simp), he.2.1.1, he.2.1.2, he.2.2.1, SP_of_adj l _ (fun i hi => h1 (i + 1) (by simpa using hi)) (fun i h0 hi => ?_) (fun h0 => ?_)⟩
    · have := h2 (i + 1) (by omega) (by simpa using hi)
      rw [Nat.add_sub_cancel] at this
      obtain ⟨j, rfl⟩ := Nat.exists_eq_succ_of_ne_zero (by omega : i ≠ 0)
      exact this
    · have := h2 1 (by omega) (by simpa using h0)
      exact this
theorem SP_adj : ∀ (l : List Item) (lo : Int), SP lo l → ∀ i, 0 < i → i < l.length → key (gd l (i - 1) it0) < key (gd l i it0)
  | [], _, _, i, _, hi => by simp at hi
  | e :: l, lo, h, i, h0, hi => by
    obtain ⟨j, rfl⟩ := Nat.exists_eq_succ_of_ne_zero (by omega : i ≠ 0)
    cases j with
    | zero =>
      cases l with
      | nil => simp at hi
      | cons e2 l =>
        have := h.2.2.2.2.1
        show key e < key e2
        omega
    | succ j =>
      have := SP_adj l _ h.2.2.2.2 (j + 1) (by omega) (by simpa using hi)
      exact this
theorem billOk_iff {l : List Item} : billOk l = true ↔ (∀ e ∈ l, itOk e = true) ∧ SP 8 l ∧ l.length ≤ 32 := by
  unfold billOk
  simp only [Bool.and_eq_true, Bool.not_eq_true', List.any_eq_false, List.mem_range, decide_eq_true_eq]
  constructor
  · rintro ⟨h1, h2⟩
    have hok : ∀ i, i < l.length → itOk (gd l i it0) = true := fun i hi => by
      have := h1 i hi
      simp only [billBadS, Bool.or_eq_true, not_or, Bool.not_eq_true', Bool.not_eq_false] at this
      exact this.1
    refine ⟨fun e he => ?_, SP_of_adj l 8 hok (fun i h0 hi => ?_) (fun h0 => ?_), h2⟩
    · obtain ⟨i, hi, rfl⟩ := List.getElem_of_mem he
      have := hok i hi
      rwa [gd_in it0 hi] at this
    · have := h1 i hi
      simp only [billBadS, Bool.or_eq_true, not_or, Bool.and_eq_true, decide_eq_true_eq, not_and] at this
      have h3 := this.2 h0
      have p1 := itOk_iff.1 (hok i hi)
      have p2 := itOk_iff.1 (hok (i - 1) (by omega))
      exact (itLt_iff p2.2.1.1 p2.2.1.2 p1.2.1.1 p1.2.1.2).1 (by simpa using h3)
    · have p1 := itOk_iff.1 (hok 0 h0)
      unfold key
      generalize gd l 0 it0 = u at p1 ⊢
      omega
  · rintro ⟨h1, h2, h3⟩
    refine ⟨fun i hi => ?_, h3⟩
    have hok : ∀ i, i < l.length → itOk (gd l i it0) = true := fun i hi => by rw [gd_in it0 hi]; exact h1 _ (List.getElem_mem hi)
    have p1 := itOk_iff.1 (hok i hi)
    unfold billBadS
    rw [hok i hi]
    by_cases h0 : 0 < i
    · have p2 := itOk_iff.1 (hok (i - 1) (by omega))
      rw [(itLt_iff p2.2.1.1 p2.2.1.2 p1.2.1.1 p1.2.1.2).2 (SP_adj l 8 h2 i h0 hi)]
      simp
    · simp [h0]
theorem cnt_hi : ∀ {l : List Item} {k : Int}, (∀ e ∈ l, itOk e = true) → 40 ≤ k → cnt l k = 0
  | [], _, _, _ => rfl
  | e :: l, k, h, hk => by
    have he := itOk_iff.1 (h e (by simp))
    unfold cnt
    rw [if_neg (by unfold key; omega), cnt_hi (fun x hx => h x (by simp [hx])) hk]; rfl
theorem cnt_le : ∀ {l : List Item} (k : Int), (∀ e ∈ l, itOk e = true) → 0 ≤ cnt l k ∧ cnt l k ≤ 1000 * (l.length : Int)
  | [], _, _ => ⟨Int.le_refl _, by simp [cnt]⟩
  | e :: l, k, h => by
    have he := itOk_iff.1 (h e (by simp))
    have := cnt_le (l := l) k fun x hx => h x (List.mem_cons_of_mem _ hx)
    unfold cnt
    simp only [List.length_cons]
    split <;> omega
end AT

namespace AT
def cp (k c : Int) : Int := if k = 1 then c else if k = 2 then 7 * c else if k = 3 then 100 * c else 3 * c
def endK (k c : Int) : Int := if k = 1 then c else 0
def tot (f : Int → Int → Int) : List Item → Int
  | [] => 0
  | e :: l => f e.Kind e.Count + tot f l
theorem cp_add (k a b : Int) : cp k (a + b) = cp k a + cp k b := by unfold cp; (repeat' split) <;> omega
theorem endK_add (k a b : Int) : endK k (a + b) = endK k a + endK k b := by unfold endK; (repeat' split) <;> omega
theorem cp_zero (k : Int) : cp k 0 = 0 := by unfold cp; (repeat' split) <;> omega
theorem cp_nonneg {k c : Int} (h : 0 ≤ c) : 0 ≤ cp k c := by unfold cp; (repeat' split) <;> omega
theorem cp_mono {k a b : Int} (h : a ≤ b) : cp k a ≤ cp k b := by unfold cp; (repeat' split) <;> omega
theorem cp_le {k c : Int} (h : 0 ≤ c) (h2 : c ≤ 1000) : cp k c ≤ 100000 := by unfold cp; (repeat' split) <;> omega
theorem tot_ins {f : Int → Int → Int} (hf : ∀ k a b, f k (a + b) = f k a + f k b) {x : Item} (hx : 0 ≤ x.Node ∧ x.Node ≤ 7) : ∀ {l : List Item}, (∀ e ∈ l, 0 ≤ e.Node ∧ e.Node ≤ 7) → tot f (ins x l) = tot f l + f x.Kind x.Count
  | [], _ => by show f x.Kind x.Count + 0 = 0 + _; omega
  | e :: l, h => by
    have ih := tot_ins hf hx (l := l) (fun y hy => h y (List.mem_cons_of_mem _ hy))
    have he := h e (List.mem_cons_self ..)
    unfold ins
    split
    · show f e.Kind e.Count + tot f (ins x l) = f e.Kind e.Count + tot f l + _
      omega
    · split
      · rename_i hk
        have hkk : e.Kind = x.Kind := by unfold key at hk; omega
        show f x.Kind (x.Count + e.Count) + tot f l = f e.Kind e.Count + tot f l + _
        rw [hf, hkk]; omega
      · show f x.Kind x.Count + (f e.Kind e.Count + tot f l) = f e.Kind e.Count + tot f l + _
        omega
def addAll : List Item → List Item → List Item
  | o, [] => o
  | o, x :: b => addAll (ins x o) b
theorem SP_nodes : ∀ {l : List Item} {lo : Int}, SP lo l → ∀ e ∈ l, 0 ≤ e.Node ∧ e.Node ≤ 7
  | e :: l, lo, h, y, hy => by
    rcases List.mem_cons.1 hy with rfl | hy
    · exact ⟨h.2.1, h.2.2.1⟩
    · exact SP_nodes h.2.2.2.2 y hy
theorem addAll_facts {f : Int → Int → Int} (hf : ∀ k a b, f k (a + b) = f k a + f k b) : ∀ (b o : List Item), (∀ x ∈ b, itOk x = true) → SP 8 o → SP 8 (addAll o b) ∧ (∀ k, cnt (addAll o b) k = cnt o k + cnt b k) ∧ tot f (addAll o b) = tot f o + tot f b
  | [], o, _, h => ⟨h, fun k => by show cnt o k = cnt o k + 0; omega, by show tot f o = tot f o + 0; omega⟩
  | x :: b, o, hb, h => by
    have hx := itOk_iff.1 (hb x (List.mem_cons_self ..))
    obtain ⟨a1, a2, a3⟩ := addAll_facts hf b (ins x o) (fun y hy => hb y (List.mem_cons_of_mem _ hy)) (SP_ins hx.2.1.1 hx.2.1.2 hx.2.2.1 h (by unfold key; omega))
    refine ⟨a1, fun k => ?_, ?_⟩
    · show cnt (addAll (ins x o) b) k = cnt o k + ((if key x = k then x.Count else 0) + cnt b k)
      rw [a2 k, cnt_ins]; omega
    · show tot f (addAll (ins x o) b) = tot f o + (f x.Kind x.Count + tot f b)
      rw [a3, tot_ins hf hx.2.1 (SP_nodes h)]; omega
theorem tot_merge {f : Int → Int → Int} (hf : ∀ k a b, f k (a + b) = f k a + f k b) {a b c : List Item} (ha : billOk a = true) (hb : billOk b = true) (hc : billOk c = true) (h : ∀ k, cnt c k = cnt a k + cnt b k) : tot f c = tot f a + tot f b := by
  obtain ⟨-, sa, -⟩ := billOk_iff.1 ha
  obtain ⟨ob, -, -⟩ := billOk_iff.1 hb
  obtain ⟨-, sc, -⟩ := billOk_iff.1 hc
  obtain ⟨a1, a2, a3⟩ := addAll_facts hf b a ob sa
  rw [uniq c (addAll a b) 8 sc a1 (fun k => by rw [h k, a2 k])]
  exact a3
theorem tot_bound : ∀ {l : List Item}, (∀ e ∈ l, itOk e = true) → 0 ≤ tot cp l ∧ tot cp l ≤ 100000 * (l.length : Int)
  | [], _ => by show (0 : Int) ≤ 0 ∧ (0 : Int) ≤ 100000 * ((0 : Nat) : Int); omega
  | e :: l, h => by
    have ih := tot_bound (l := l) (fun y hy => h y (List.mem_cons_of_mem _ hy))
    have he := itOk_iff.1 (h e (List.mem_cons_self ..))
    have h1 := cp_nonneg (k := e.Kind) (c := e.Count) (by omega)
    have h2 := cp_le (k := e.Kind) (c := e.Count) (by omega) he.2.2.2
    show 0 ≤ cp e.Kind e.Count + tot cp l ∧ cp e.Kind e.Count + tot cp l ≤ 100000 * ((l.length + 1 : Nat) : Int)
    omega
def usedOf (s : List Item) : List Item → Int
  | [] => 0
  | e :: l => cp e.Kind (cnt s (key e)) + usedOf s l
def oneOf (x : Item) : List Item → Int
  | [] => 0
  | e :: l => cp e.Kind (if key x = key e then x.Count else 0) + oneOf x l
theorem oneOf_lo (x : Item) : ∀ {l : List Item} {lo : Int}, SP lo l → key x < lo → oneOf x l = 0
  | [], _, _, _ => rfl
  | e :: l, lo, h, hk => by
    show cp e.Kind (if key x = key e then x.Count else 0) + oneOf x l = 0
    have h1 := h.1
    rw [if_neg (by omega), oneOf_lo x h.2.2.2.2 (by omega), cp_zero]; rfl
theorem oneOf_le {x : Item} (hx : 0 ≤ x.Node ∧ x.Node ≤ 7) (hc : 0 ≤ x.Count) : ∀ {l : List Item} {lo : Int}, SP lo l → oneOf x l ≤ cp x.Kind x.Count
  | [], _, _ => cp_nonneg hc
  | e :: l, lo, h => by
    show cp e.Kind (if key x = key e then x.Count else 0) + oneOf x l ≤ _
    by_cases hk : key x = key e
    · have hn1 := h.2.1
      have hn2 := h.2.2.1
      have hkk : e.Kind = x.Kind := by unfold key at hk; omega
      rw [if_pos hk, oneOf_lo x h.2.2.2.2 (by omega), hkk]; omega
    · rw [if_neg hk, cp_zero]
      have := oneOf_le hx hc h.2.2.2.2
      omega
theorem usedOf_nil : ∀ (l : List Item), usedOf [] l = 0
  | [] => rfl
  | e :: l => by show cp e.Kind 0 + usedOf [] l = 0; rw [cp_zero, usedOf_nil l]; rfl
theorem usedOf_cons (x : Item) (s : List Item) : ∀ (l : List Item), usedOf (x :: s) l = oneOf x l + usedOf s l
  | [] => rfl
  | e :: l => by
    show cp e.Kind ((if key x = key e then x.Count else 0) + cnt s (key e)) + usedOf (x :: s) l = cp e.Kind (if key x = key e then x.Count else 0) + oneOf x l + (cp e.Kind (cnt s (key e)) + usedOf s l)
    rw [cp_add, usedOf_cons x s l]; omega
theorem usedOf_le {l : List Item} {lo : Int} (h : SP lo l) : ∀ {s : List Item}, (∀ e ∈ s, itOk e = true) → usedOf s l ≤ tot cp s
  | [], _ => by rw [usedOf_nil]; exact Int.le_refl _
  | x :: s, hs => by
    have hx := itOk_iff.1 (hs x (List.mem_cons_self ..))
    have ih := usedOf_le h (s := s) (fun y hy => hs y (List.mem_cons_of_mem _ hy))
    have h1 := oneOf_le hx.2.1 (by omega) h
    rw [usedOf_cons]
    show _ ≤ cp x.Kind x.Count + tot cp s
    omega
end AT

namespace AT
def tv {n : Nat} (t : IA n) (k : Int) : Int := (t.l[k.toNat]?).getD 0
theorem tv_get {n : Nat} (t : IA n) {k : Nat} (h : k < n) : t.get k = some (tv t (k : Int)) := by
  unfold IA.get tv
  have : k < t.l.length := by rw [t.h]; exact h
  simp [List.getElem?_eq_getElem this]
theorem tv_put {n : Nat} (t : IA n) {k : Nat} (h : k < n) (v : Int) : ∃ t', t.put k v = some t' ∧ ∀ j : Int, 0 ≤ j → tv t' j = if j = (k : Int) then v else tv t j := by
  unfold IA.put
  rw [if_pos h]
  refine ⟨_, rfl, fun j hj => ?_⟩
  have hk : k < t.l.length := by rw [t.h]; exact h
  unfold tv
  simp only [List.getElem?_set]
  by_cases e : j = (k : Int)
  · subst e; simp [hk]
  · have : k ≠ j.toNat := by omega
    simp [e, this]
theorem chk_in {i : Int} {n : Nat} (h0 : 0 ≤ i) (h : i < n) : chk i n = some i.toNat := by unfold chk; rw [if_pos ⟨h0, h⟩]
structure Told (t : IA 40) (m : Int) (o : List Item) : Prop where
  sp : SP 8 o
  lt : ∀ e ∈ o, key e < m
  len : (o.length : Int) ≤ m - 8
  c : ∀ k, cnt o k = if 8 ≤ k ∧ k < m ∧ 0 < tv t k then tv t k else 0
theorem row_loop {fu : Nat} (t : IA 40) (kind : Int) (h1 : 1 ≤ kind) (h4 : kind ≤ 4) (z : IA 8) (hz : ∀ j : Nat, j < 8 → z.l[j]? = some (tv t (kind * 8 + j))) : ∀ (fk i : Nat) (o : List Item), i ≤ 8 → 8 - i < fk → Told t (kind * 8 + i) o →
    ∃ o', impl_tally_bill_L2 fu z kind fk o i = some (o', 8) ∧ Told t (kind * 8 + 8) o' := by
  intro fk
  induction fk with
  | zero => intro i _ _ h; omega
  | succ fk ih =>
    intro i o hi hk ht
    rw [impl_tally_bill_L2]
    by_cases h : i < 8
    · have hc : ((i : Int) < 8) = True := by simp; omega
      have hidx : idx z.l (i : Int) = some (tv t (kind * 8 + i)) := by rw [idx_nat]; exact hz i h
      have e : w64 ((i : Int) + 1) = ((i + 1 : Nat) : Int) := by rw [w64_in (by omega) (by omega)]; omega
      have hm : kind * 8 + ((i + 1 : Nat) : Int) = kind * 8 + (i : Int) + 1 := by omega
      simp only [hc, decide_true, if_true, hidx, Option.bind_some, e]
      clear e
      by_cases hp : tv t (kind * 8 + i) > 0
      · have ha : app o [(⟨kind, (i : Int), tv t (kind * 8 + i)⟩ : Item)] = some (o ++ [⟨kind, (i : Int), tv t (kind * 8 + i)⟩]) := by
          have := ht.len
          unfold app; rw [if_pos (by simp; omega)]
        simp only [hp, decide_true, if_true, ha, Option.bind_some]
        refine ih (i + 1) _ h (by omega) ⟨SP_snoc ht.sp (fun x hx => ?_) ?_ ?_ ?_ ?_, fun x hx => ?_, ?_, fun k => ?_⟩
        · exact ht.lt x hx
        · show 8 ≤ kind * 8 + (i : Int); omega
        · show (0 : Int) ≤ i; omega
        · show (i : Int) ≤ 7; omega
        · show 1 ≤ tv t (kind * 8 + i); omega
        · rw [hm]
          rcases List.mem_append.1 hx with hx | hx
          · have := ht.lt x hx; omega
          · rw [List.mem_singleton] at hx; subst hx
            show kind * 8 + (i : Int) < kind * 8 + (i : Int) + 1; omega
        · have := ht.len
          rw [hm, List.length_append]; simp; omega
        · rw [cnt_snoc, ht.c k, hm]
          have hkz : key ⟨kind, (i : Int), tv t (kind * 8 + i)⟩ = kind * 8 + (i : Int) := rfl
          rw [hkz]
          by_cases ek : kind * 8 + (i : Int) = k
          · subst ek
            rw [if_neg (by omega), if_pos rfl, if_pos ⟨by omega, by omega, hp⟩]; simp
          · rw [if_neg ek, Int.add_zero]
            by_cases hq : 8 ≤ k ∧ k < kind * 8 + (i : Int) ∧ 0 < tv t k
            · rw [if_pos hq, if_pos ⟨hq.1, by omega, hq.2.2⟩]
            · rw [if_neg hq, if_neg (fun h3 => hq ⟨h3.1, by omega, h3.2.2⟩)]
      · simp only [hp, decide_false, Bool.false_eq_true, if_false]
        refine ih (i + 1) o h (by omega) ⟨ht.sp, fun x hx => ?_, ?_, fun k => ?_⟩
        · have := ht.lt x hx; omega
        · have := ht.len; omega
        · rw [ht.c k, hm]
          by_cases hq : 8 ≤ k ∧ k < kind * 8 + (i : Int) ∧ 0 < tv t k
          · rw [if_pos hq, if_pos ⟨hq.1, by omega, hq.2.2⟩]
          · rw [if_neg hq, if_neg (fun h3 => by
              by_cases ek : k = kind * 8 + (i : Int)
              · subst ek; exact hp h3.2.2
              · exact hq ⟨h3.1, by omega, h3.2.2⟩)]
    · obtain rfl : i = 8 := by omega
      rw [if_neg (by decide)]
      exact ⟨o, rfl, ht⟩
theorem kinds_loop {fu : Nat} (hfu : 2097153 ≤ fu) (t : IA 40) : ∀ (fk n : Nat) (o : List Item), 1 ≤ n → n ≤ 5 → 5 - n < fk → Told t ((n : Int) * 8) o → ∃ o', impl_tally_bill_L1 fu t fk o n = some (o', 5) ∧ Told t 40 o' := by
  intro fk
  induction fk with
  | zero => intro n _ _ _ h; omega
  | succ fk ih =>
    intro n o h1 h5 hk ht
    rw [impl_tally_bill_L1]
    by_cases h : n ≤ 4
    · have hc : ((n : Int) ≤ 4) = True := by simp; omega
      have e : w64 ((n : Int) + 1) = ((n + 1 : Nat) : Int) := by rw [w64_in (by omega) (by omega)]; omega
      have hp : ∃ z, t.part ((n : Int).toNat * 8) 8 = some z ∧ ∀ j : Nat, j < 8 → z.l[j]? = some (tv t ((n : Int) * 8 + j)) := by
        unfold IA.part
        rw [dif_pos (by omega)]
        refine ⟨_, rfl, fun j hj => ?_⟩
        have hlt : n * 8 + j < t.l.length := by rw [t.h]; omega
        simp only [Int.toNat_natCast]
        rw [List.getElem?_take_of_lt hj, List.getElem?_drop]
        unfold tv
        rw [show ((n : Int) * 8 + (j : Int)).toNat = n * 8 + j by omega, List.getElem?_eq_getElem hlt]; rfl
      obtain ⟨z, hz1, hz2⟩ := hp
      obtain ⟨o', g1, g2⟩ := row_loop (fu := fu) t (n : Int) (by omega) (by omega) z hz2 fu 0 o (by omega) (by omega) (by simpa using ht)
      rw [Int.ofNat_zero] at g1
      simp only [hc, decide_true, if_true, chk_in (show 0 ≤ (n : Int) by omega) (show (n : Int) < ((5 : Nat) : Int) by omega), Option.bind_some, hz1, g1, e]
      exact ih (n + 1) o' (by omega) (by omega) (by omega) (by rw [show ((n + 1 : Nat) : Int) * 8 = (n : Int) * 8 + 8 by omega]; exact g2)
    · obtain rfl : n = 5 := by omega
      rw [if_neg (by decide)]
      exact ⟨o, rfl, by simpa using ht⟩
theorem bill_eq {fu : Nat} (hfu : 2097153 ≤ fu) (t : IA 40) : ∃ o, Told t 40 o ∧ impl_tally_bill fu t = some (if billOk o then (o, true) else ([], false)) := by
  unfold impl_tally_bill
  obtain ⟨o, g1, g2⟩ := kinds_loop hfu t fu 1 [] (by omega) (by omega) (by omega) ⟨trivial, fun e he => by simp at he, by simp, fun k => by rw [if_neg (by omega)]; rfl⟩
  rw [show ((1 : Nat) : Int) = 1 from rfl] at g1
  have hl := g2.len
  refine ⟨o, g2, ?_⟩
  rw [g1]
  simp only [Option.bind_some]
  rw [isBill_eq o (by omega) (by omega)]
  cases billOk o <;> rfl
theorem zero_tv (k : Int) : tv (⟨[0, 0, 0, 0, 0, 0, 0, 0, 0, 0, 0, 0, 0, 0, 0, 0, 0, 0, 0, 0, 0, 0, 0, 0, 0, 0, 0, 0, 0, 0, 0, 0, 0, 0, 0, 0, 0, 0, 0, 0], rfl⟩ : IA 40) k = 0 := by
  unfold tv
  show (([0, 0, 0, 0, 0, 0, 0, 0, 0, 0, 0, 0, 0, 0, 0, 0, 0, 0, 0, 0, 0, 0, 0, 0, 0, 0, 0, 0, 0, 0, 0, 0, 0, 0, 0, 0, 0, 0, 0, 0] : List Int)[k.toNat]?).getD 0 = 0
  rw [show ([0, 0, 0, 0, 0, 0, 0, 0, 0, 0, 0, 0, 0, 0, 0, 0, 0, 0, 0, 0, 0, 0, 0, 0, 0, 0, 0, 0, 0, 0, 0, 0, 0, 0, 0, 0, 0, 0, 0, 0] : List Int) = List.replicate 40 0 from rfl, List.getElem?_replicate]
  split <;> rfl
end AT

namespace AT
theorem add_loop {fu : Nat} (l : List Item) (f : Int) (hf : f = 1 ∨ f = -1) (hl : ∀ e ∈ l, itOk e = true) (hn : l.length ≤ 32) : ∀ (fk i : Nat) (t : IA 40), i ≤ l.length → l.length - i < fk → (∀ k : Int, 0 ≤ k → k < 40 → -100000 - 1000 * (i : Int) ≤ tv t k ∧ tv t k ≤ 100000 + 1000 * (i : Int)) →
    ∃ t', impl_tally_add_L1 fu l f fk i t = some ((l.length : Int), t') ∧ ∀ k : Int, 0 ≤ k → k < 40 → tv t' k = tv t k + f * cnt (l.drop i) k := by
  intro fk
  induction fk with
  | zero => intro i _ _ h; omega
  | succ fk ih =>
    intro i t hi hk hb
    rw [impl_tally_add_L1]
    by_cases h : i < l.length
    · have he := itOk_iff.1 (hl l[i] (List.getElem_mem h))
      have hd : l.drop i = l[i] :: l.drop (i + 1) := (List.getElem_cons_drop h).symm
      rw [hd]
      generalize l[i] = e at he hd
      have hidx : idx l (i : Int) = some e := by
        rw [idx_nat]
        have := congrArg (fun x => x[0]?) hd
        simpa using this
      have hc : ((i : Int) < l.length) = True := by simp; omega
      have hkk : 0 + e.Kind.toNat * 8 + e.Node.toNat * 1 < 40 := by omega
      have hkey : ((0 + e.Kind.toNat * 8 + e.Node.toNat * 1 : Nat) : Int) = key e := by unfold key; omega
      have hk0 : 0 ≤ key e := by unfold key; omega
      have hk4 : key e < 40 := by unfold key; omega
      have hbe := hb (key e) hk0 hk4
      have hg := tv_get t hkk
      rw [hkey] at hg
      have hfc : f * e.Count = if f = 1 then e.Count else - e.Count := by rcases hf with rfl | rfl <;> simp
      have hw1 : w64 (f * e.Count) = f * e.Count := by
        rw [hfc]; rcases hf with rfl | rfl <;> simp <;> exact w64_in (by omega) (by omega)
      have hfb : -1000 ≤ f * e.Count ∧ f * e.Count ≤ 1000 := by rw [hfc]; rcases hf with rfl | rfl <;> simp <;> omega
      have hw2 : w64 (tv t (key e) + f * e.Count) = tv t (key e) + f * e.Count := w64_in (by omega) (by omega)
      obtain ⟨t1, p1, p2⟩ := tv_put t hkk (tv t (key e) + f * e.Count)
      simp only [hc, decide_true, if_true, hidx, Option.bind_some, chk_in (show 0 ≤ e.Kind by omega) (show e.Kind < ((5 : Nat) : Int) by omega), chk_in (show 0 ≤ e.Node by omega) (show e.Node < ((8 : Nat) : Int) by omega), hg, hw1, hw2, p1, w64_inc h (show (l.length : Int) ≤ 9223372036854775807 by omega)]
      clear hw1 hw2
      rw [hkey] at p2
      obtain ⟨t', g1, g2⟩ := ih (i + 1) t1 h (by omega) (fun k k0 k4 => by
        rw [p2 k k0]
        have := hb k k0 k4
        split <;> omega)
      refine ⟨t', g1, fun k k0 k4 => ?_⟩
      rw [g2 k k0 k4, p2 k k0, show cnt (e :: l.drop (i + 1)) k = (if key e = k then e.Count else 0) + cnt (l.drop (i + 1)) k from rfl]
      by_cases ek : k = key e
      · subst ek
        rw [if_pos rfl, if_pos rfl, Int.mul_add]; omega
      · rw [if_neg ek, if_neg (Ne.symm ek), Int.zero_add]
    · obtain rfl : i = l.length := by omega
      rw [if_neg (by simp), List.drop_length]
      exact ⟨t, rfl, fun k _ _ => by simp [cnt]⟩
theorem add_eq {fu : Nat} (hfu : 2097153 ≤ fu) (l : List Item) (f : Int) (hf : f = 1 ∨ f = -1) (hl : ∀ e ∈ l, itOk e = true) (hn : l.length ≤ 32) (t : IA 40) (hb : ∀ k : Int, 0 ≤ k → k < 40 → -100000 ≤ tv t k ∧ tv t k ≤ 100000) :
    ∃ t', impl_tally_add fu t l f = some t' ∧ ∀ k : Int, 0 ≤ k → k < 40 → tv t' k = tv t k + f * cnt l k := by
  obtain ⟨t', g1, g2⟩ := add_loop (fu := fu) l f hf hl hn fu 0 t (by omega) (by omega) (fun k k0 k4 => by have := hb k k0 k4; omega)
  rw [Int.ofNat_zero] at g1
  unfold impl_tally_add
  rw [g1]
  exact ⟨t', rfl, g2⟩
end AT

namespace AT
def chr (s : ByteArray) (i : Nat) : Int := ((s[i]?).map fun b => (b.toNat : Int)).getD 0
theorem sidx_chr {s : ByteArray} {i : Nat} (h : i < s.size) : sidx s (i : Int) = some ⟨chr s i⟩ := by
  have e : s[i]? = some (s[i]'h) := by simp [h]
  unfold sidx chr
  rw [if_pos (by omega), Int.toNat_natCast, e]
  rfl
def isLet (c : Int) : Bool := decide (97 ≤ c) && decide (c ≤ 122)
def isDig (c : Int) : Bool := decide (48 ≤ c) && decide (c ≤ 57)
def sgnBad (s : ByteArray) (i : Nat) : Bool := !(isLet (chr s i) || isDig (chr s i))
def chrBad (s : ByteArray) (i : Nat) : Bool := !isLet (chr s i) && (!isDig (chr s i) || i == 0)
def nameOk (s : ByteArray) : Bool := !((List.range s.size).any (chrBad s)) && (decide (1 ≤ s.size) && decide (s.size ≤ 8))
theorem isName_eq {fu : Nat} (s : ByteArray) (h : s.size < fu) (hn : s.size ≤ 2097152) : impl_isName fu s = some (nameOk s) := by
  unfold impl_isName
  rw [scan_all (l := List.range s.size) (G := impl_isName_L1 fu s) (chrBad s) (fun i => false) (by simp; omega)
    (fun fk i hi => by
      have hi' : i < s.size := by simpa using hi
      rw [impl_isName_L1, if_pos (by simpa using hi'), sidx_chr hi', List.getElem_range]
      simp only [Option.bind_some, chrBad, isLet, isDig, ge_iff_le]
      have e0 : ((i : Int) == 0) = (i == 0) := by rw [Bool.eq_iff_iff]; simp only [beq_iff_eq]; omega
      rw [e0]
      obtain ⟨b, hb⟩ : ∃ b, b = (i == 0) := ⟨_, rfl⟩
      simp only [← hb]
      by_cases h1 : 97 ≤ chr s i <;> by_cases h2 : 48 ≤ chr s i <;> by_cases h3 : chr s i ≤ 122 <;> by_cases h4 : chr s i ≤ 57 <;> cases b <;> simp [h1, h2, h3, h4])
    (fun fk => by rw [List.length_range, impl_isName_L1, if_neg (by simp)]) fu (by simpa using h)]
  unfold nameOk
  have e1 : decide (1 ≤ (s.size : Int)) = decide (1 ≤ s.size) := by simp only [decide_eq_decide]; omega
  have e2 : decide ((s.size : Int) ≤ 8) = decide (s.size ≤ 8) := by simp only [decide_eq_decide]; omega
  cases (List.range s.size).any (chrBad s) <;> simp [Out.on, e1, e2]
theorem l2Sign_eq (fu : Nat) (b : By) : spec_l2Sign fu b = some (isLet b.n || isDig b.n) := by
  unfold spec_l2Sign isLet isDig
  simp only [ge_iff_le]
  by_cases h1 : 97 ≤ b.n <;> by_cases h2 : 48 ≤ b.n <;> by_cases h3 : b.n ≤ 122 <;> by_cases h4 : b.n ≤ 57 <;> simp [h1, h2, h3, h4]
theorem l2Name_eq {fu : Nat} (s : ByteArray) (h : s.size < fu) (hn : s.size ≤ 2097152) : spec_l2Name fu s = some (nameOk s) := by
  unfold spec_l2Name
  have e1 : decide (1 ≤ (s.size : Int)) = decide (1 ≤ s.size) := by simp only [decide_eq_decide]; omega
  have e2 : decide ((s.size : Int) ≤ 8) = decide (s.size ≤ 8) := by simp only [decide_eq_decide]; omega
  simp only [l1In_eq, Option.bind_some, e1, e2]
  unfold nameOk
  by_cases hb : (decide (1 ≤ s.size) && decide (s.size ≤ 8)) = true
  · rw [hb]
    simp only [Bool.and_eq_true, decide_eq_true_eq] at hb
    have h0 : 0 < s.size := by omega
    have hs := sidx_chr h0
    simp only [Int.ofNat_zero, Int.natCast_zero] at hs
    simp only [Bool.not_true, Bool.false_eq_true, if_false, hs, Option.bind_some, Bool.and_true]
    have hl : spec_l2Name_L1 fu s fu 0 = some (if (List.range s.size).any (sgnBad s) then .ret false else .next ((List.range s.size).length : Int)) :=
      scan_all (l := List.range s.size) (G := spec_l2Name_L1 fu s) (sgnBad s) (fun i => false) (by simp; omega)
        (fun fk i hi => by
          have hi' : i < s.size := by simpa using hi
          rw [spec_l2Name_L1, if_pos (by simpa using hi'), sidx_chr hi', List.getElem_range]
          simp only [Option.bind_some, l2Sign_eq, sgnBad]
          rfl)
        (fun fk => by rw [List.length_range, spec_l2Name_L1, if_neg (by simp)]) fu (by simpa using h)
    rw [hl]
    have ha : (List.range s.size).any (chrBad s) = (!isLet (chr s 0) || (List.range s.size).any (sgnBad s)) := by
      rw [Bool.eq_iff_iff]
      simp only [List.any_eq_true, List.mem_range, Bool.or_eq_true, chrBad, sgnBad, Bool.and_eq_true, Bool.not_eq_true', beq_iff_eq, Bool.or_eq_false_iff]
      constructor
      · rintro ⟨i, hi, h1, h2⟩
        rcases h2 with h2 | h2
        · exact .inr ⟨i, hi, h1, h2⟩
        · subst h2; exact .inl h1
      · rintro (h1 | ⟨i, hi, h1, h2⟩)
        · exact ⟨0, h0, h1, .inr rfl⟩
        · exact ⟨i, hi, h1, .inl h2⟩
    rw [ha]
    unfold isLet
    have e3 : decide (chr s 0 < 97) = !decide (97 ≤ chr s 0) := by rw [← decide_not]; simp only [decide_eq_decide]; omega
    have e4 : decide (chr s 0 > 122) = !decide (chr s 0 ≤ 122) := by rw [← decide_not]; simp only [decide_eq_decide]; omega
    simp only [e3, e4]
    cases decide (97 ≤ chr s 0) <;> cases decide (chr s 0 ≤ 122) <;> cases (List.range s.size).any (sgnBad s) <;> rfl
  · rw [Bool.not_eq_true] at hb
    rw [hb]
    simp
def nm0 : ByteArray := ByteArray.empty
def seen (l : List ByteArray) (i : Nat) : Bool := (l.take i).any fun x => (gd l i nm0).toList == x.toList
theorem beq_symm' {α : Type} [BEq α] [LawfulBEq α] (a b : α) : (a == b) = (b == a) := by
  rw [Bool.eq_iff_iff]; simp only [beq_iff_eq]; exact eq_comm
theorem indexS_eq {fu : Nat} (l : List ByteArray) (v : ByteArray) (h : l.length < fu) (hn : l.length ≤ 2097152) : slices_Index_string_string fu l v = some (if l.any (fun x => v.toList == x.toList) then ((l.findIdx fun x => v.toList == x.toList : Nat) : Int) else -1) := by
  unfold slices_Index_string_string
  rw [scan_all (l := l) (G := slices_Index_string_string_L1 fu l v) (fun x => v.toList == x.toList) (fun i => (i : Int)) (by omega)
    (fun fk i hi => by rw [slices_Index_string_string_L1, if_pos (by simpa using hi), idx_in hi]; rfl)
    (fun fk => by rw [slices_Index_string_string_L1, if_neg (by simp)]) fu h]
  cases l.any (fun x => v.toList == x.toList) <;> rfl
theorem containsS_eq {fu : Nat} (l : List ByteArray) (v : ByteArray) (h : l.length < fu) (hn : l.length ≤ 2097152) : slices_Contains_string_string fu l v = some (l.any fun x => v.toList == x.toList) := by
  unfold slices_Contains_string_string
  rw [indexS_eq l v h hn]
  cases l.any (fun x => v.toList == x.toList)
  · rfl
  · simp
theorem l2Find_eq {fu : Nat} (l : List ByteArray) (v : ByteArray) (h : l.length < fu) (hn : l.length ≤ 2097152) : spec_l2Find fu l v = some (if l.any (fun x => x.toList == v.toList) then ((l.findIdx fun x => x.toList == v.toList : Nat) : Int) else -1) := by
  unfold spec_l2Find
  rw [scan_all (l := l) (G := spec_l2Find_L1 fu l v) (fun x => x.toList == v.toList) (fun i => (i : Int)) (by omega)
    (fun fk i hi => by rw [spec_l2Find_L1, if_pos (by simpa using hi), idx_in hi]; rfl)
    (fun fk => by rw [spec_l2Find_L1, if_neg (by simp)]) fu h]
  cases l.any (fun x => x.toList == v.toList) <;> rfl
theorem sub_take {α : Type} {l : List α} {i : Nat} (h : i ≤ l.length) : sub l 0 (i : Int) = some (l.take i) := by
  unfold sub
  rw [if_pos (by omega)]
  simp
theorem findIdx_self {α : Type} {l : List α} {p : α → Bool} {i : Nat} (h : i < l.length) (hp : p l[i] = true) : (l.findIdx p = i) ↔ (l.take i).any p = false := by
  rw [List.findIdx_eq h]
  constructor
  · rintro ⟨-, h2⟩
    rw [Bool.eq_false_iff]
    intro h3
    obtain ⟨x, hx, hpx⟩ := List.any_eq_true.1 h3
    obtain ⟨j, hj, rfl⟩ := List.mem_iff_getElem.1 hx
    simp only [List.length_take] at hj
    rw [List.getElem_take] at hpx
    have := h2 j (by omega)
    rw [hpx] at this
    cases this
  · intro h3
    refine ⟨hp, fun j hj => ?_⟩
    rw [Bool.eq_false_iff]
    intro h4
    rw [Bool.eq_false_iff] at h3
    refine h3 (List.any_eq_true.2 ⟨l[j], ?_, h4⟩)
    refine List.mem_iff_getElem.2 ⟨j, by simp; omega, by rw [List.getElem_take]⟩
def nodeBad (l : List ByteArray) (i : Nat) : Bool := !nameOk (gd l i nm0) || seen l i
def f0 : Fiber := ⟨0, 0, 0, 0⟩
def fibOk (m : Nat) (f : Fiber) : Bool := decide (0 ≤ f.A) && (decide (f.A < f.B) && (decide (f.B < (m : Int)) && ((decide (1 ≤ f.Length) && decide (f.Length ≤ 5000)) && (decide (0 ≤ f.Risk) && decide (f.Risk ≤ 9)))))
def fGt (f g : Fiber) : Bool := decide (g.A < f.A) || (f.A == g.A && (decide (g.B < f.B) || (f.B == g.B && (decide (g.Length < f.Length) || (f.Length == g.Length && decide (g.Risk < f.Risk))))))
def cmpI (x y : Int) : Int := if x < y then -1 else if x > y then 1 else 0
theorem compare_eq (fu : Nat) (x y : Int) : cmp_Compare_int fu x y = some (cmpI x y) := by
  unfold cmp_Compare_int cmp_isNaN_int cmpI
  have e : ∀ z : Int, (z != z) = false := fun z => by simp
  simp only [e, Option.bind_some, Bool.false_eq_true, if_false, decide_eq_true_eq]
  by_cases h : x < y
  · rw [if_pos h, if_pos h]
  · rw [if_neg h, if_neg h]
    split <;> rfl
theorem cmpI_pos (x y : Int) : 0 < cmpI x y ↔ y < x := by unfold cmpI; split <;> (try split) <;> omega
theorem cmpI_zero (x y : Int) : cmpI x y = 0 ↔ x = y := by unfold cmpI; split <;> (try split) <;> omega
def or4 (a b c d : Int) : Int := if a ≠ 0 then a else if b ≠ 0 then b else if c ≠ 0 then c else if d ≠ 0 then d else 0
theorem or_eq {fu : Nat} (a b c d : Int) (h : 4 < fu) : cmp_Or_int fu [a, b, c, d] = some (or4 a b c d) := by
  unfold cmp_Or_int
  rw [scan_all (l := [a, b, c, d]) (G := cmp_Or_int_L1 fu [a, b, c, d]) (fun e => e != 0) (fun i => gd [a, b, c, d] i 0) (by simp)
    (fun fk i hi => by rw [cmp_Or_int_L1, if_pos (by rw [decide_eq_true_eq]; omega), idx_in hi, gd_in 0 hi]; rfl)
    (fun fk => by rw [cmp_Or_int_L1, if_neg (by simp)]) fu (by simpa using h)]
  unfold or4
  have e : ∀ z : Int, (z != 0) = !decide (z = 0) := fun z => by by_cases h : z = 0 <;> simp [h]
  simp only [e]
  by_cases ha : a = 0 <;> by_cases hb : b = 0 <;> by_cases hc : c = 0 <;> by_cases hd : d = 0 <;> simp [ha, hb, hc, hd, List.findIdx_cons, gd, Out.on]
theorem compareFibers_eq {fu : Nat} (f g : Fiber) (h : 4 < fu) : ∃ r, impl_compareFibers fu f g = some r ∧ decide (r > 0) = fGt f g := by
  unfold impl_compareFibers
  simp only [compare_eq, Option.bind_some, or_eq _ _ _ _ h]
  refine ⟨_, rfl, ?_⟩
  rw [Bool.eq_iff_iff]
  simp only [fGt, decide_eq_true_eq, Bool.or_eq_true, Bool.and_eq_true, beq_iff_eq, or4]
  have a1 := cmpI_pos f.A g.A
  have a2 := cmpI_zero f.A g.A
  have b1 := cmpI_pos f.B g.B
  have b2 := cmpI_zero f.B g.B
  have c1 := cmpI_pos f.Length g.Length
  have c2 := cmpI_zero f.Length g.Length
  have d1 := cmpI_pos f.Risk g.Risk
  have d2 := cmpI_zero f.Risk g.Risk
  generalize cmpI f.A g.A = a at *
  generalize cmpI f.B g.B = b at *
  generalize cmpI f.Length g.Length = c at *
  generalize cmpI f.Risk g.Risk = d at *
  split <;> (try split) <;> (try split) <;> (try split) <;> constructor <;> intro h <;> simp only [decide_eq_true_eq] at * <;> omega
def bef (f g : Fiber) : Int := if f.A ≠ g.A then w64 (f.A - g.A) else if f.B ≠ g.B then w64 (f.B - g.B) else if f.Length ≠ g.Length then w64 (f.Length - g.Length) else w64 (f.Risk - g.Risk)
theorem l2Before_eq (fu : Nat) (f g : Fiber) : spec_l2Before fu f g = some (bef f g) := by
  unfold spec_l2Before bef
  by_cases h1 : f.A = g.A
  · by_cases h2 : f.B = g.B
    · by_cases h3 : f.Length = g.Length <;> simp [h1, h2, h3]
    · simp [h1, h2]
  · simp [h1]
theorem bef_gt {m : Nat} {f g : Fiber} (hm : m ≤ 8) (hf : fibOk m f = true) (hg : fibOk m g = true) : decide (bef f g > 0) = fGt f g := by
  simp only [fibOk, Bool.and_eq_true, decide_eq_true_eq] at hf hg
  rw [Bool.eq_iff_iff]
  simp only [fGt, decide_eq_true_eq, Bool.or_eq_true, Bool.and_eq_true, beq_iff_eq]
  unfold bef
  have e1 : w64 (f.A - g.A) = f.A - g.A := w64_in (by omega) (by omega)
  have e2 : w64 (f.B - g.B) = f.B - g.B := w64_in (by omega) (by omega)
  have e3 : w64 (f.Length - g.Length) = f.Length - g.Length := w64_in (by omega) (by omega)
  have e4 : w64 (f.Risk - g.Risk) = f.Risk - g.Risk := w64_in (by omega) (by omega)
  rw [e1, e2, e3, e4]
  clear e1 e2 e3 e4
  split
  · omega
  · split
    · omega
    · split <;> omega
theorem l2Fiber_eq {fu m : Nat} (f : Fiber) (hm : m ≤ 8) : spec_l2Fiber fu f (m : Int) = some (fibOk m f) := by
  unfold spec_l2Fiber
  simp only [l1In_eq, Option.bind_some]
  have e0 : w64 ((m : Int) - 1) = (m : Int) - 1 := w64_in (by omega) (by omega)
  rw [e0]
  unfold fibOk
  by_cases h1 : 0 ≤ f.A
  · by_cases h2 : f.A ≤ (m : Int) - 1
    · have e1 : w64 (f.A + 1) = f.A + 1 := w64_in (by omega) (by omega)
      rw [e1]
      have e2 : decide (f.A + 1 ≤ f.B) = decide (f.A < f.B) := by simp only [decide_eq_decide]; omega
      have e3 : decide (f.B ≤ (m : Int) - 1) = decide (f.B < (m : Int)) := by simp only [decide_eq_decide]; omega
      rw [e2, e3]
      simp only [h1, h2, decide_true, Bool.and_true, if_true, Bool.true_and]
      cases decide (f.A < f.B) <;> cases decide (f.B < (m : Int)) <;> cases decide (1 ≤ f.Length) <;> cases decide (f.Length ≤ 5000) <;> cases decide (0 ≤ f.Risk) <;> cases decide (f.Risk ≤ 9) <;> rfl
    · have : (decide (f.A < f.B) && decide (f.B < (m : Int))) = false := by
        rw [Bool.eq_false_iff]; simp only [ne_eq, Bool.and_eq_true, decide_eq_true_eq]; omega
      rw [← Bool.and_assoc (decide (f.A < f.B)), this]
      simp [h1, h2]
  · simp [h1]
def fibBad (m : Nat) (l : List Fiber) (i : Nat) : Bool := !fibOk m (gd l i f0) || (decide (0 < i) && fGt (gd l (i - 1) f0) (gd l i f0))
def fibBadS (m : Nat) (l : List Fiber) (i : Nat) : Bool := !fibOk m (gd l i f0) || (decide (0 < i) && decide (bef (gd l (i - 1) f0) (gd l i f0) > 0))
theorem fibBad_eq {m : Nat} (l : List Fiber) (hm : m ≤ 8) : (List.range l.length).any (fibBadS m l) = (List.range l.length).any (fibBad m l) := by
  by_cases hv : ∃ i, i < l.length ∧ fibOk m (gd l i f0) = false
  · obtain ⟨i, hi, hb⟩ := hv
    have h1 : (List.range l.length).any (fibBadS m l) = true := List.any_eq_true.2 ⟨i, List.mem_range.2 hi, by simp [fibBadS, hb]⟩
    have h2 : (List.range l.length).any (fibBad m l) = true := List.any_eq_true.2 ⟨i, List.mem_range.2 hi, by simp [fibBad, hb]⟩
    rw [h1, h2]
  · have hv' : ∀ i, i < l.length → fibOk m (gd l i f0) = true := fun i hi => by
      cases h : fibOk m (gd l i f0)
      · exact absurd ⟨i, hi, h⟩ hv
      · rfl
    refine any_same fun i hi => ?_
    have hi' := List.mem_range.1 hi
    unfold fibBadS fibBad
    by_cases h0 : 0 < i
    · rw [bef_gt hm (hv' (i - 1) (by omega)) (hv' i hi')]
    · simp [h0]
def netOk (n : Network) : Bool := (decide (2 ≤ n.Nodes.length) && decide (n.Nodes.length ≤ 8)) && (decide (n.Fibers.length ≤ 14) && (!((List.range n.Nodes.length).any (nodeBad n.Nodes)) && !((List.range n.Fibers.length).any (fibBad n.Nodes.length n.Fibers))))
def NetB (n : Network) : Prop := (n.Nodes.length ≤ 2097152 ∧ ∀ e ∈ n.Nodes, e.size ≤ 2097152) ∧ n.Fibers.length ≤ 2097152
theorem gd_mem {α : Type} {l : List α} {i : Nat} (d : α) (h : i < l.length) : gd l i d ∈ l := by rw [gd_in d h]; exact List.getElem_mem _
theorem implNet_eq {fu : Nat} (hfu : 2097153 ≤ fu) (n : Network) (hB : NetB n) : impl_IsValidNetwork fu n = some (netOk n) := by
  obtain ⟨⟨hl, hs⟩, hl2⟩ := hB
  unfold impl_IsValidNetwork
  rw [scan_all (l := List.range n.Nodes.length) (G := impl_IsValidNetwork_L1 fu n) (nodeBad n.Nodes) (fun i => false) (by simp; omega)
    (fun fk i hi => by
      have hi' : i < n.Nodes.length := by simpa using hi
      have hz := hs _ (gd_mem nm0 hi')
      rw [impl_IsValidNetwork_L1, if_pos (by simpa using hi'), idx_gd nm0 hi', List.getElem_range]
      simp only [Option.bind_some, isName_eq _ (show (gd n.Nodes i nm0).size < fu by omega) hz, nodeBad, seen]
      rcases Bool.eq_false_or_eq_true (nameOk (gd n.Nodes i nm0)) with h1 | h1
      · rw [sub_take (by omega)]
        simp only [h1, Bool.not_true, Bool.false_eq_true, if_false, Option.bind_some, containsS_eq _ _ (show (n.Nodes.take i).length < fu by simp; omega) (by simp; omega), Bool.false_or]
      · simp [h1])
    (fun fk => by rw [List.length_range, impl_IsValidNetwork_L1, if_neg (by simp)]) fu (by simp; omega)]
  rw [scan_all (l := List.range n.Fibers.length) (G := impl_IsValidNetwork_L2 fu n) (fibBad n.Nodes.length n.Fibers) (fun i => false) (by simp; omega)
    (fun fk i hi => by
      have hi' : i < n.Fibers.length := by simpa using hi
      rw [impl_IsValidNetwork_L2, if_pos (by simpa using hi'), idx_gd f0 hi', List.getElem_range]
      simp only [Option.bind_some, within_eq, fibBad, fibOk]
      obtain ⟨x, hx⟩ : ∃ x, x = gd n.Fibers i f0 := ⟨_, rfl⟩
      simp only [← hx]
      have a1 : decide (x.A < 0) = !decide (0 ≤ x.A) := by rw [← decide_not]; simp only [decide_eq_decide]; omega
      have a2 : decide (x.A ≥ x.B) = !decide (x.A < x.B) := by rw [← decide_not]; simp only [decide_eq_decide]; omega
      have a3 : decide (x.B ≥ (n.Nodes.length : Int)) = !decide (x.B < (n.Nodes.length : Int)) := by rw [← decide_not]; simp only [decide_eq_decide]; omega
      simp only [a1, a2, a3]
      by_cases b1 : (decide (0 ≤ x.A)) = false
      · simp [b1]
      rw [Bool.not_eq_false] at b1
      by_cases b2 : (decide (x.A < x.B)) = false
      · simp [b1, b2]
      rw [Bool.not_eq_false] at b2
      by_cases b3 : (decide (x.B < (n.Nodes.length : Int))) = false
      · simp [b1, b2, b3]
      rw [Bool.not_eq_false] at b3
      by_cases b4 : (decide (1 ≤ x.Length) && decide (x.Length ≤ 5000)) = false
      · simp only [b1, b2, b3, b4]; simp
      rw [Bool.not_eq_false] at b4
      by_cases b5 : (decide (0 ≤ x.Risk) && decide (x.Risk ≤ 9)) = false
      · simp only [b1, b2, b3, b4, b5]; simp
      rw [Bool.not_eq_false] at b5
      simp only [b1, b2, b3, b4, b5]
      by_cases h0 : 0 < i
      · rw [w64_dec h0 (by omega), idx_gd f0 (show i - 1 < n.Fibers.length by omega)]
        obtain ⟨r, h1, h2⟩ := compareFibers_eq (fu := fu) (gd n.Fibers (i - 1) f0) x (by omega)
        have h0' : ((i : Int) > 0) := by omega
        simp [h0, h1, h2, h0']
      · have h0' : ¬ ((i : Int) > 0) := by omega
        simp [h0, h0'])
    (fun fk => by rw [List.length_range, impl_IsValidNetwork_L2, if_neg (by simp)]) fu (by simp; omega)]
  unfold netOk
  have e1 : decide (2 ≤ (n.Nodes.length : Int)) = decide (2 ≤ n.Nodes.length) := by simp only [decide_eq_decide]; omega
  have e2 : decide ((n.Nodes.length : Int) ≤ 8) = decide (n.Nodes.length ≤ 8) := by simp only [decide_eq_decide]; omega
  have e3 : decide ((n.Fibers.length : Int) ≤ 14) = decide (n.Fibers.length ≤ 14) := by simp only [decide_eq_decide]; omega
  simp only [within_eq, e1, e2, e3]
  cases (List.range n.Nodes.length).any (nodeBad n.Nodes) <;> cases (List.range n.Fibers.length).any (fibBad n.Nodes.length n.Fibers) <;> cases decide (2 ≤ n.Nodes.length) <;> cases decide (n.Nodes.length ≤ 8) <;> cases decide (n.Fibers.length ≤ 14) <;> rfl
theorem specNet_eq {fu : Nat} (hfu : 2097153 ≤ fu) (n : Network) (hB : NetB n) : spec_l2Good fu n = some (netOk n) := by
  obtain ⟨⟨hl, hs⟩, hl2⟩ := hB
  unfold spec_l2Good netOk
  have e1 : decide (2 ≤ (n.Nodes.length : Int)) = decide (2 ≤ n.Nodes.length) := by simp only [decide_eq_decide]; omega
  have e2 : decide ((n.Nodes.length : Int) ≤ 8) = decide (n.Nodes.length ≤ 8) := by simp only [decide_eq_decide]; omega
  have e3 : decide ((n.Fibers.length : Int) > 14) = !decide (n.Fibers.length ≤ 14) := by rw [← decide_not]; simp only [decide_eq_decide]; omega
  simp only [l1In_eq, e1, e2, e3, Option.bind_some]
  cases hb : (decide (2 ≤ n.Nodes.length) && decide (n.Nodes.length ≤ 8))
  · rfl
  cases hc : decide (n.Fibers.length ≤ 14)
  · rfl
  simp only [Bool.and_eq_true, decide_eq_true_eq] at hb hc
  rw [scan_all (l := List.range n.Nodes.length) (G := spec_l2Good_L1 fu n) (nodeBad n.Nodes) (fun i => false) (by simp; omega)
    (fun fk i hi => by
      have hi' : i < n.Nodes.length := by simpa using hi
      have hz := hs _ (gd_mem nm0 hi')
      rw [spec_l2Good_L1, if_pos (by simpa using hi'), idx_gd nm0 hi', List.getElem_range]
      simp only [Option.bind_some, l2Name_eq _ (show (gd n.Nodes i nm0).size < fu by omega) hz, nodeBad, seen]
      by_cases h1 : (nameOk (gd n.Nodes i nm0)) = false
      · simp [h1]
      rw [Bool.not_eq_false] at h1
      · have hp : (fun x : ByteArray => x.toList == (gd n.Nodes i nm0).toList) n.Nodes[i] = true := by simp [gd_in nm0 hi']
        have ha : n.Nodes.any (fun x => x.toList == (gd n.Nodes i nm0).toList) = true := List.any_eq_true.2 ⟨_, List.getElem_mem hi', hp⟩
        have hfi := findIdx_self (p := fun x : ByteArray => x.toList == (gd n.Nodes i nm0).toList) hi' hp
        have hsy : (n.Nodes.take i).any (fun x => (gd n.Nodes i nm0).toList == x.toList) = (n.Nodes.take i).any (fun x => x.toList == (gd n.Nodes i nm0).toList) := any_same fun x _ => beq_symm' _ _
        simp only [h1, Bool.not_true, Bool.false_eq_true, if_false, Option.bind_some, l2Find_eq _ _ (show n.Nodes.length < fu by omega) hl, ha, if_true, Bool.false_or, hsy]
        have he : (((n.Nodes.findIdx fun x => x.toList == (gd n.Nodes i nm0).toList : Nat) : Int) != (i : Int)) = (n.Nodes.take i).any (fun x => x.toList == (gd n.Nodes i nm0).toList) := by
          rw [Bool.eq_iff_iff]
          simp only [bne_iff_ne, ne_eq, Int.natCast_inj, hfi, Bool.not_eq_false]
        rw [he])
    (fun fk => by rw [List.length_range, spec_l2Good_L1, if_neg (by simp)]) fu (by simp; omega)]
  rw [scan_all (l := List.range n.Fibers.length) (G := spec_l2Good_L2 fu n) (fibBadS n.Nodes.length n.Fibers) (fun i => false) (by simp; omega)
    (fun fk i hi => by
      have hi' : i < n.Fibers.length := by simpa using hi
      rw [spec_l2Good_L2, if_pos (by simpa using hi'), idx_gd f0 hi', List.getElem_range]
      simp only [Option.bind_some, l2Fiber_eq _ hb.2, fibBadS]
      by_cases h1 : (fibOk n.Nodes.length (gd n.Fibers i f0)) = false
      · simp [h1]
      rw [Bool.not_eq_false] at h1
      simp only [h1]
      by_cases h0 : 0 < i
      · rw [w64_dec h0 (by omega), idx_gd f0 (show i - 1 < n.Fibers.length by omega)]
        have h0' : ((i : Int) > 0) := by omega
        simp [h0, l2Before_eq, h0']
      · have h0' : ¬ ((i : Int) > 0) := by omega
        simp [h0, h0'])
    (fun fk => by rw [List.length_range, spec_l2Good_L2, if_neg (by simp)]) fu (by simp; omega), fibBad_eq _ hb.2]
  cases (List.range n.Nodes.length).any (nodeBad n.Nodes) <;> cases (List.range n.Fibers.length).any (fibBad n.Nodes.length n.Fibers) <;> rfl
structure NetF (n : Network) : Prop where
  lo : 2 ≤ n.Nodes.length
  hi : n.Nodes.length ≤ 8
  fib : n.Fibers.length ≤ 14
  each : ∀ f ∈ n.Fibers, 0 ≤ f.A ∧ f.A < f.B ∧ f.B < (n.Nodes.length : Int) ∧ 1 ≤ f.Length ∧ f.Length ≤ 5000 ∧ 0 ≤ f.Risk ∧ f.Risk ≤ 9
theorem netF {n : Network} (h : netOk n = true) : NetF n := by
  unfold netOk at h
  simp only [Bool.and_eq_true, decide_eq_true_eq, Bool.not_eq_true'] at h
  obtain ⟨⟨h1, h2⟩, h3, h4, h5⟩ := h
  refine ⟨h1, h2, h3, fun f hf => ?_⟩
  obtain ⟨i, hi, rfl⟩ := List.mem_iff_getElem.1 hf
  rw [Bool.eq_false_iff] at h5
  have h6 : fibBad n.Nodes.length n.Fibers i = false := by
    rw [Bool.eq_false_iff]
    intro h7
    exact h5 (List.any_eq_true.2 ⟨i, List.mem_range.2 hi, h7⟩)
  unfold fibBad at h6
  rw [Bool.or_eq_false_iff] at h6
  have h8 := h6.1
  rw [gd_in f0 hi] at h8
  simp only [Bool.not_eq_false', fibOk, Bool.and_eq_true, decide_eq_true_eq] at h8
  omega
end AT

namespace AT
theorem app_ok {α : Type} {l m : List α} (h : l.length + m.length ≤ 1099511627776) : app l m = some (l ++ m) := by unfold app; rw [if_pos h]
theorem indexI_eq {fu : Nat} (l : List Int) (v : Int) (h : l.length < fu) (hn : l.length ≤ 2097152) : slices_Index_int_int fu l v = some (if l.any (fun x => x == v) then ((l.findIdx fun x => x == v : Nat) : Int) else -1) := by
  unfold slices_Index_int_int
  rw [scan_all (l := l) (G := slices_Index_int_int_L1 fu l v) (fun x => x == v) (fun i => (i : Int)) (by omega)
    (fun fk i hi => by rw [slices_Index_int_int_L1, if_pos (by simpa using hi), idx_in hi, Option.bind_some, beq_symm' v])
    (fun fk => by rw [slices_Index_int_int_L1, if_neg (by simp)]) fu h]
  cases l.any (fun x => x == v) <;> rfl
theorem containsI_eq {fu : Nat} (l : List Int) (v : Int) (h : l.length < fu) (hn : l.length ≤ 2097152) : slices_Contains_int_int fu l v = some (l.any fun x => x == v) := by
  unfold slices_Contains_int_int
  rw [indexI_eq l v h hn]
  cases l.any (fun x => x == v)
  · rfl
  · simp
theorem l1Has_eq {fu : Nat} (l : List Int) (v : Int) (h : l.length < fu) (hn : l.length ≤ 2097152) : spec_l1Has fu l v = some (l.any fun x => x == v) := by
  unfold spec_l1Has
  rw [scan_all (l := l) (G := spec_l1Has_L1 fu l v) (fun x => x == v) (fun i => true) (by omega)
    (fun fk i hi => by rw [spec_l1Has_L1, if_pos (by simpa using hi), idx_in hi, Option.bind_some])
    (fun fk => by rw [spec_l1Has_L1, if_neg (by simp)]) fu h]
  cases l.any (fun x => x == v) <;> rfl
def oth (f : Fiber) (v : Int) : Int := if v = f.A then f.B else if v = f.B then f.A else -1
theorem oth_if {R : Type} (f : Fiber) (v : Int) (k : Int → R) : (if v == f.A then k f.B else if v == f.B then k f.A else k (-1)) = k (oth f v) := by
  unfold oth
  by_cases h1 : v = f.A
  · rw [if_pos (beq_iff_eq.2 h1), if_pos h1]
  · rw [if_neg (by simpa using h1), if_neg h1]
    by_cases h2 : v = f.B
    · rw [if_pos (beq_iff_eq.2 h2), if_pos h2]
    · rw [if_neg (by simpa using h2), if_neg h2]
theorem otherEnd_eq (fu : Nat) (f : Fiber) (v : Int) : impl_otherEnd fu f v = some (oth f v) := by
  exact oth_if f v some
theorem l2Other_eq (fu : Nat) (n : Network) (i : Nat) (v : Int) (h : i < n.Fibers.length) : spec_l2Other fu n (i : Int) v = some (oth (gd n.Fibers i f0) v) := by
  unfold spec_l2Other
  rw [idx_gd f0 h]
  exact oth_if _ v some
def rwalk (F : List Fiber) : List Int → List Int → Int → Option (List Int)
  | [], out, _ => some out
  | i :: r, out, v => if 0 ≤ i ∧ i < (F.length : Int) then (if oth (gd F i.toNat f0) v < 0 ∨ (out.any fun x => x == oth (gd F i.toNat f0) v) = true then none else rwalk F r (out ++ [oth (gd F i.toNat f0) v]) (oth (gd F i.toNat f0) v)) else none
def rnodes (n : Network) (r : Route) : Option (List Int) := if (0 ≤ r.Start ∧ r.Start < (n.Nodes.length : Int)) ∧ r.Fibers ≠ [] then rwalk n.Fibers r.Fibers [r.Start] r.Start else none
def gl (l : List Int) : Int := gd l (l.length - 1) 0
theorem gl_snoc (l : List Int) (x : Int) : gl (l ++ [x]) = x := by unfold gl gd; simp
theorem rwalk_len {F : List Fiber} : ∀ {fs out : List Int} {v : Int} {o : List Int}, rwalk F fs out v = some o → o.length = out.length + fs.length
  | [], out, v, o, h => by simp only [rwalk, Option.some.injEq] at h; subst h; simp
  | i :: r, out, v, o, h => by
    unfold rwalk at h
    split at h
    · split at h
      · cases h
      · have := rwalk_len h
        simp only [List.length_append, List.length_cons, List.length_nil] at this ⊢
        omega
    · cases h
theorem rwalk_in {F : List Fiber} : ∀ {fs out : List Int} {v : Int} {o : List Int}, rwalk F fs out v = some o → ∀ i ∈ fs, 0 ≤ i ∧ i < (F.length : Int)
  | [], out, v, o, h => by simp
  | i :: r, out, v, o, h => by
    unfold rwalk at h
    split at h
    · rename_i hi
      split at h
      · cases h
      · intro j hj
        rcases List.mem_cons.1 hj with rfl | hj
        · exact hi
        · exact rwalk_in h j hj
    · cases h
theorem visited_loop {fu : Nat} (hfu : 2097153 ≤ fu) (n : Network) (r : Route) (hn : n.Fibers.length ≤ 2097152) (hr : r.Fibers.length ≤ 2097152) : ∀ (fk i : Nat) (out : List Int) (v : Int), i ≤ r.Fibers.length → r.Fibers.length - i < fk → out.length = i + 1 →
    ∃ z, impl_visited_L1 fu n r fk out v i = some (match rwalk n.Fibers (r.Fibers.drop i) out v with | some o => .next (o, z) | none => .ret ([], false)) := by
  intro fk
  induction fk with
  | zero => intro i _ _ _ h; omega
  | succ fk ih =>
    intro i out v hi hk ho
    rw [impl_visited_L1]
    by_cases h : i < r.Fibers.length
    · rw [if_pos (by simpa using h), idx_in h, ← List.getElem_cons_drop h, rwalk]
      obtain ⟨e, he⟩ : ∃ e, e = r.Fibers[i] := ⟨_, rfl⟩
      simp only [← he, Option.bind_some, within_eq]
      rw [w64_in (by omega) (by omega)]
      by_cases hb : 0 ≤ e ∧ e < (n.Fibers.length : Int)
      · rw [if_pos hb]
        have hb' : (decide (0 ≤ e) && decide (e ≤ (n.Fibers.length : Int) - 1)) = true := by simp; omega
        have hx : idx n.Fibers e = some (gd n.Fibers e.toNat f0) := by
          have := idx_gd (l := n.Fibers) (i := e.toNat) f0 (by omega)
          rwa [Int.toNat_of_nonneg hb.1] at this
        simp only [hb', Bool.not_true, Bool.false_eq_true, if_false, hx, Option.bind_some, otherEnd_eq]
        obtain ⟨y, hy⟩ : ∃ y, y = oth (gd n.Fibers e.toNat f0) v := ⟨_, rfl⟩
        simp only [← hy, containsI_eq out y (show out.length < fu by omega) (by omega)]
        by_cases hn : y < 0 ∨ (out.any fun x => x == y) = true
        · rw [if_pos hn]
          refine ⟨(0, 0), ?_⟩
          rcases hn with h1 | h1
          · simp [h1]
          · by_cases h2 : y < 0 <;> simp [h1, h2]
        · rw [if_neg hn]
          have h1 : ¬ y < 0 := fun h => hn (.inl h)
          have h2 : (out.any fun x => x == y) = false := by rw [Bool.eq_false_iff]; exact fun h => hn (.inr h)
          simp only [h1, decide_false, Bool.false_eq_true, if_false, h2, Option.bind_some]
          rw [app_ok (by simp; omega), Option.bind_some, w64_inc h (by omega)]
          exact ih (i + 1) _ _ h (by omega) (by simp; omega)
      · rw [if_neg hb]
        have hb' : (decide (0 ≤ e) && decide (e ≤ (n.Fibers.length : Int) - 1)) = false := by rw [Bool.eq_false_iff]; simp; omega
        exact ⟨(0, 0), by simp [hb']⟩
    · obtain rfl : i = r.Fibers.length := by omega
      rw [if_neg (by simp), List.drop_length]
      exact ⟨_, rfl⟩
theorem visited_eq {fu : Nat} (hfu : 2097153 ≤ fu) (n : Network) (r : Route) (hn : n.Fibers.length ≤ 2097152) (hm : n.Nodes.length ≤ 2097152) (hr : r.Fibers.length ≤ 2097152) : impl_visited fu n r = some (match rnodes n r with | some o => (o, true) | none => ([], false)) := by
  unfold impl_visited
  simp only [within_eq, Option.bind_some]
  rw [w64_in (by omega) (by omega)]
  by_cases hs : 0 ≤ r.Start ∧ r.Start < (n.Nodes.length : Int)
  · have hb' : (decide (0 ≤ r.Start) && decide (r.Start ≤ (n.Nodes.length : Int) - 1)) = true := by simp; omega
    by_cases he : r.Fibers = []
    · have er : rnodes n r = none := by unfold rnodes; rw [if_neg fun h => h.2 he]
      simp [hb', he, er]
    · have er : rnodes n r = rwalk n.Fibers r.Fibers [r.Start] r.Start := by unfold rnodes; rw [if_pos ⟨hs, he⟩]
      have he' : ((r.Fibers.length : Int) == 0) = false := by
        rw [beq_eq_false_iff_ne]
        have := List.length_pos_iff.2 he
        omega
      obtain ⟨z, hz⟩ := visited_loop hfu n r hn hr fu 0 [r.Start] r.Start (by omega) (by omega) rfl
      rw [List.drop_zero, show ((0 : Nat) : Int) = 0 from rfl] at hz
      rw [er]
      simp only [hb', Bool.not_true, Bool.false_eq_true, if_false, he', Option.bind_some, hz]
      cases rwalk n.Fibers r.Fibers [r.Start] r.Start <;> rfl
  · have hb' : (decide (0 ≤ r.Start) && decide (r.Start ≤ (n.Nodes.length : Int) - 1)) = false := by rw [Bool.eq_false_iff]; simp; omega
    have er : rnodes n r = none := by unfold rnodes; rw [if_neg fun h => hs h.1]
    simp [hb', er]
theorem walk_loop {fu : Nat} (hfu : 2097153 ≤ fu) (n : Network) (r : Route) (hn : n.Fibers.length ≤ 2097152) (hr : r.Fibers.length ≤ 2097152) : ∀ (fk i : Nat) (out : List Int), i ≤ r.Fibers.length → r.Fibers.length - i < fk → out.length = i + 1 →
    ∃ z o', spec_l4Walk_L1 fu n r fk out i = some (match rwalk n.Fibers (r.Fibers.drop i) out (gl out) with | some o => .next (o, z) | none => .ret (o', false)) := by
  intro fk
  induction fk with
  | zero => intro i _ _ h; omega
  | succ fk ih =>
    intro i out hi hk ho
    rw [spec_l4Walk_L1]
    by_cases h : i < r.Fibers.length
    · rw [if_pos (by simpa using h), idx_in h, ← List.getElem_cons_drop h, rwalk]
      obtain ⟨e, he⟩ : ∃ e, e = r.Fibers[i] := ⟨_, rfl⟩
      have hlast : idx out (w64 ((out.length : Int) - 1)) = some (gl out) := by
        rw [w64_dec (by omega) (by omega), idx_gd 0 (by omega)]; rfl
      simp only [← he, Option.bind_some, l1In_eq, hlast]
      rw [w64_in (by omega) (by omega)]
      by_cases hb : 0 ≤ e ∧ e < (n.Fibers.length : Int)
      · rw [if_pos hb]
        have hb' : (decide (0 ≤ e) && decide (e ≤ (n.Fibers.length : Int) - 1)) = true := by simp; omega
        have hx : spec_l2Other fu n e (gl out) = some (oth (gd n.Fibers e.toNat f0) (gl out)) := by
          have := l2Other_eq fu n e.toNat (gl out) (by omega)
          rwa [Int.toNat_of_nonneg hb.1] at this
        simp only [hb', Bool.not_true, Bool.false_eq_true, if_false, hx, Option.bind_some]
        obtain ⟨y, hy⟩ : ∃ y, y = oth (gd n.Fibers e.toNat f0) (gl out) := ⟨_, rfl⟩
        simp only [← hy, l1Has_eq out y (show out.length < fu by omega) (by omega)]
        by_cases hn : y < 0 ∨ (out.any fun x => x == y) = true
        · rw [if_pos hn]
          refine ⟨0, out, ?_⟩
          rcases hn with h1 | h1
          · simp [h1]
          · by_cases h2 : y < 0 <;> simp [h1, h2]
        · rw [if_neg hn]
          have h1 : ¬ y < 0 := fun h => hn (.inl h)
          have h2 : (out.any fun x => x == y) = false := by rw [Bool.eq_false_iff]; exact fun h => hn (.inr h)
          simp only [h1, decide_false, Bool.false_eq_true, if_false, h2, Option.bind_some]
          rw [app_ok (by simp; omega), Option.bind_some, w64_inc h (by omega)]
          have := ih (i + 1) (out ++ [y]) h (by omega) (by simp; omega)
          rwa [gl_snoc] at this
      · rw [if_neg hb]
        have hb' : (decide (0 ≤ e) && decide (e ≤ (n.Fibers.length : Int) - 1)) = false := by rw [Bool.eq_false_iff]; simp; omega
        exact ⟨0, out, by simp [hb']⟩
    · obtain rfl : i = r.Fibers.length := by omega
      rw [if_neg (by simp), List.drop_length]
      exact ⟨_, [], rfl⟩
theorem walk_eq {fu : Nat} (hfu : 2097153 ≤ fu) (n : Network) (r : Route) (hn : n.Fibers.length ≤ 2097152) (hm : n.Nodes.length ≤ 2097152) (hr : r.Fibers.length ≤ 2097152) : ∃ o', spec_l4Walk fu n r = some (match rnodes n r with | some o => (o, true) | none => (o', false)) := by
  unfold spec_l4Walk
  simp only [l1In_eq, Option.bind_some]
  rw [w64_in (by omega) (by omega)]
  by_cases hs : 0 ≤ r.Start ∧ r.Start < (n.Nodes.length : Int)
  · have hb' : (decide (0 ≤ r.Start) && decide (r.Start ≤ (n.Nodes.length : Int) - 1)) = true := by simp; omega
    by_cases he : r.Fibers = []
    · have er : rnodes n r = none := by unfold rnodes; rw [if_neg fun h => h.2 he]
      exact ⟨[r.Start], by simp [hb', he, er]⟩
    · have er : rnodes n r = rwalk n.Fibers r.Fibers [r.Start] r.Start := by unfold rnodes; rw [if_pos ⟨hs, he⟩]
      have he' : ((r.Fibers.length : Int) == 0) = false := by
        rw [beq_eq_false_iff_ne]
        have := List.length_pos_iff.2 he
        omega
      obtain ⟨z, o', hz⟩ := walk_loop hfu n r hn hr fu 0 [r.Start] (by omega) (by omega) rfl
      rw [List.drop_zero, show ((0 : Nat) : Int) = 0 from rfl, show gl [r.Start] = r.Start from rfl] at hz
      refine ⟨o', ?_⟩
      rw [er]
      simp only [hb', Bool.not_true, Bool.false_eq_true, if_false, he', Option.bind_some, hz]
      cases rwalk n.Fibers r.Fibers [r.Start] r.Start <;> rfl
  · have hb' : (decide (0 ≤ r.Start) && decide (r.Start ≤ (n.Nodes.length : Int) - 1)) = false := by rw [Bool.eq_false_iff]; simp; omega
    refine ⟨[r.Start], ?_⟩
    have er : rnodes n r = none := by unfold rnodes; rw [if_neg fun h => hs h.1]
    simp [hb', er]
theorem l4Good_eq {fu : Nat} (hfu : 2097153 ≤ fu) (n : Network) (r : Route) (hB : NetB n) (hr : r.Fibers.length ≤ 2097152) : spec_l4Good fu n r = some (netOk n && (rnodes n r).isSome) := by
  unfold spec_l4Good
  rw [specNet_eq hfu n hB, Option.bind_some]
  obtain ⟨o', h⟩ := walk_eq hfu n r hB.2 hB.1.1 hr
  rw [h]
  cases netOk n
  · rfl
  · cases rnodes n r <;> rfl
theorem rnodes_len {n : Network} {r : Route} {o : List Int} (h : rnodes n r = some o) : o.length = r.Fibers.length + 1 := by
  unfold rnodes at h
  split at h
  · have := rwalk_len h
    simp only [List.length_cons, List.length_nil] at this
    omega
  · cases h
theorem rnodes_in {n : Network} {r : Route} {o : List Int} (h : rnodes n r = some o) : ∀ i ∈ r.Fibers, 0 ≤ i ∧ i < (n.Fibers.length : Int) := by
  unfold rnodes at h
  split at h
  · exact rwalk_in h
  · cases h
theorem fib_at {n : Network} {r : Route} {o : List Int} (h : rnodes n r = some o) {i : Nat} (hi : i < r.Fibers.length) : idx n.Fibers r.Fibers[i] = some (gd n.Fibers r.Fibers[i].toNat f0) ∧ gd n.Fibers r.Fibers[i].toNat f0 ∈ n.Fibers := by
  obtain ⟨h0, h1⟩ := rnodes_in h _ (List.getElem_mem hi)
  have := idx_gd (l := n.Fibers) (i := r.Fibers[i].toNat) f0 (by omega)
  rw [Int.toNat_of_nonneg h0] at this
  exact ⟨this, gd_mem f0 (by omega)⟩
theorem short_of : ∀ (m : Nat) (l : List Int), l.Nodup → (∀ x ∈ l, 0 ≤ x ∧ x < (m : Int)) → l.length ≤ m
  | 0, l, _, h => by
    cases l with
    | nil => simp
    | cons x l => have := h x (by simp); omega
  | m + 1, l, hn, h => by
    have h1 := short_of m (l.erase (m : Int)) (hn.erase _) fun x hx => by
      have hx1 := List.mem_of_mem_erase hx
      have := h x hx1
      refine ⟨this.1, ?_⟩
      have hne : x ≠ (m : Int) := fun e => by
        subst e
        exact (hn.not_mem_erase) hx
      omega
    rw [List.length_erase] at h1
    split at h1 <;> omega
theorem oth_mem {f : Fiber} {v : Int} (h : 0 ≤ oth f v) : (v = f.A ∧ oth f v = f.B) ∨ (v = f.B ∧ oth f v = f.A) := by
  unfold oth at h ⊢
  split at h
  · rename_i h1; rw [if_pos h1]; exact .inl ⟨h1, rfl⟩
  · rename_i h1
    rw [if_neg h1]
    split at h
    · rename_i h2; rw [if_pos h2]; exact .inr ⟨h2, rfl⟩
    · omega
theorem rwalk_all {F : List Fiber} (P : Int → Prop) (hF : ∀ f ∈ F, P f.A ∧ P f.B) : ∀ {fs out : List Int} {v : Int} {o : List Int} (U : List Int), rwalk F fs out v = some o → out.Nodup → (∀ x ∈ out, P x) → v ∈ out → (∀ i ∈ U, (gd F i.toNat f0).A ∈ out ∧ (gd F i.toNat f0).B ∈ out) →
    o.Nodup ∧ (∀ x ∈ o, P x) ∧ fs.Nodup ∧ ∀ i ∈ fs, i ∉ U
  | [], out, v, o, U, h, h1, h2, h3, h4 => by
    simp only [rwalk, Option.some.injEq] at h
    subst h
    exact ⟨h1, h2, .nil, by simp⟩
  | i :: r, out, v, o, U, h, h1, h2, h3, h4 => by
    unfold rwalk at h
    split at h
    case isFalse => cases h
    rename_i hi
    split at h
    case isTrue => cases h
    rename_i hc
    obtain ⟨y, hy⟩ : ∃ y, y = oth (gd F i.toNat f0) v := ⟨_, rfl⟩
    rw [← hy] at h hc
    have hy0 : 0 ≤ y := by
      rcases Classical.em (y < 0) with h' | h'
      · exact absurd (.inl h') hc
      · omega
    have hny : y ∉ out := fun hm => hc (.inr (List.any_eq_true.2 ⟨y, hm, by simp⟩))
    have hfm : gd F i.toNat f0 ∈ F := gd_mem f0 (by omega)
    have hm := oth_mem (f := gd F i.toNat f0) (v := v) (by omega)
    rw [← hy] at hm
    have hPy : P y := by
      rcases hm with ⟨_, e⟩ | ⟨_, e⟩ <;> rw [e]
      · exact (hF _ hfm).2
      · exact (hF _ hfm).1
    have hiU : i ∉ U := fun hu => by
      have := h4 i hu
      rcases hm with ⟨_, e⟩ | ⟨_, e⟩ <;> rw [e] at hny
      · exact hny this.2
      · exact hny this.1
    obtain ⟨g1, g2, g3, g4⟩ := rwalk_all P hF (i :: U) h
      (List.nodup_append.2 ⟨h1, by simp, fun a ha b hb => by rw [List.mem_singleton] at hb; subst hb; exact fun e => hny (e ▸ ha)⟩)
      (fun x hx => by
        rcases List.mem_append.1 hx with hx | hx
        · exact h2 x hx
        · rw [List.mem_singleton] at hx; subst hx; exact hPy)
      (by simp)
      (fun j hj => by
        rcases List.mem_cons.1 hj with rfl | hj
        · rcases hm with ⟨e1, e2⟩ | ⟨e1, e2⟩
          · exact ⟨List.mem_append.2 (.inl (e1 ▸ h3)), List.mem_append.2 (.inr (by rw [e2]; simp))⟩
          · exact ⟨List.mem_append.2 (.inr (by rw [e2]; simp)), List.mem_append.2 (.inl (e1 ▸ h3))⟩
        · exact ⟨List.mem_append.2 (.inl (h4 j hj).1), List.mem_append.2 (.inl (h4 j hj).2)⟩)
    refine ⟨g1, g2, List.nodup_cons.2 ⟨fun hm => g4 i hm (by simp), g3⟩, fun j hj => ?_⟩
    rcases List.mem_cons.1 hj with rfl | hj
    · exact hiU
    · exact fun hu => g4 j hj (List.mem_cons_of_mem _ hu)
theorem rnodes_facts {n : Network} {r : Route} {o : List Int} (hn : NetF n) (h : rnodes n r = some o) : o.Nodup ∧ (∀ x ∈ o, 0 ≤ x ∧ x < (n.Nodes.length : Int)) ∧ r.Fibers.Nodup ∧ r.Fibers.length ≤ 7 ∧ r.Fibers ≠ [] ∧ 0 ≤ r.Start ∧ r.Start < (n.Nodes.length : Int) := by
  have hl := rnodes_len h
  unfold rnodes at h
  split at h
  case isFalse => cases h
  rename_i hs
  obtain ⟨g1, g2, g3, _⟩ := rwalk_all (fun x => 0 ≤ x ∧ x < (n.Nodes.length : Int)) (fun f hf => by have := hn.each f hf; omega) [] h (by simp) (by simpa using hs.1) (by simp) (by simp)
  have := short_of _ _ g1 g2
  have := hn.hi
  exact ⟨g1, g2, g3, by omega, hs.2, hs.1⟩
end AT

namespace AT
theorem l4Nodes_eq {fu : Nat} (hfu : 2097153 ≤ fu) (n : Network) (r : Route) (hB : NetB n) (hr : r.Fibers.length ≤ 2097152) {o : List Int} (ho : rnodes n r = some o) : spec_l4Nodes fu n r = some o := by
  unfold spec_l4Nodes
  obtain ⟨o', h⟩ := walk_eq hfu n r hB.2 hB.1.1 hr
  rw [h, ho]; rfl
end AT

namespace AT
theorem less_eq (fu : Nat) (x y : Int) : cmp_Less_int fu x y = some (decide (x < y)) := by
  unfold cmp_Less_int cmp_isNaN_int
  have e : (x != x) = false := by simp
  simp [e]
theorem ins_loop {fu : Nat} : ∀ (fk j : Nat) (l : List Int), j < fk → j < l.length → l.length ≤ 2097152 → ∃ l' j', slices_insertionSortOrdered_int_L2 fu 0 fk l j = some (l', j') ∧ l'.Perm l := by
  intro fk
  induction fk with
  | zero => intro j _ h; omega
  | succ fk ih =>
    intro j l hk hj hl
    rw [slices_insertionSortOrdered_int_L2]
    by_cases h0 : 0 < j
    · have h0' : (j : Int) > 0 := by omega
      have hj1 : j - 1 < l.length := by omega
      simp only [h0', decide_true, if_true, idx_in hj, w64_dec h0 (show j ≤ 2097152 by omega), idx_in hj1, Option.bind_some, less_eq]
      by_cases hc : l[j] < l[j - 1]
      · have hj2 : j - 1 < (l.set j l[j - 1]).length := by rw [List.length_set]; exact hj1
        simp only [hc, decide_true, if_true, Int.toNat_natCast, idx_in hj2, Option.bind_some]
        obtain ⟨l', j', h1, h2⟩ := ih (j - 1) ((l.set j l[j - 1]).set (j - 1) l[j]) (by omega) (by simp; omega) (by simpa using hl)
        exact ⟨l', j', h1, h2.trans (List.set_set_perm hj hj1)⟩
      · simp only [hc, decide_false, Bool.false_eq_true, if_false]
        exact ⟨_, _, rfl, .refl _⟩
    · have h0' : ¬ (j : Int) > 0 := by omega
      simp only [h0', decide_false, Bool.false_eq_true, if_false, Option.bind_some]
      exact ⟨_, _, rfl, .refl _⟩
theorem ins_all {fu : Nat} (n : Nat) (hn : n ≤ 2097152) (hfu : n < fu) : ∀ (fk i : Nat) (l : List Int), n - i < fk → 1 ≤ i → l.length = n → ∃ l' i', slices_insertionSortOrdered_int_L1 fu 0 n fk l i = some (l', i') ∧ l'.Perm l := by
  intro fk
  induction fk with
  | zero => intro i _ h; omega
  | succ fk ih =>
    intro i l hk hi hl
    rw [slices_insertionSortOrdered_int_L1]
    by_cases h : i < n
    · have h' : (i : Int) < (n : Int) := by omega
      obtain ⟨l', j', h1, h2⟩ := ins_loop (fu := fu) fu i l (by omega) (by omega) (by omega)
      obtain ⟨l2, i2, h3, h4⟩ := ih (i + 1) l' (by omega) (by omega) (by rw [h2.length_eq]; exact hl)
      simp only [h', decide_true, if_true, h1, Option.bind_some, w64_inc h (show (n : Int) ≤ 9223372036854775807 by omega)]
      exact ⟨l2, i2, h3, h4.trans h2⟩
    · have h' : ¬ (i : Int) < (n : Int) := by omega
      simp only [h', decide_false, Bool.false_eq_true, if_false]
      exact ⟨_, _, rfl, .refl _⟩
theorem bind_sidx {s : ByteArray} {i : Int} {g : By → Int} (h : s.size = 256) (h0 : 0 ≤ i) (h1 : i < 256) : ∃ k, ((sidx s i).bind fun e => some (g e)) = some k := by
  unfold sidx
  have e : s[i.toNat]? = some (s[i.toNat]'(by omega)) := by simp
  rw [if_pos h0, e]
  exact ⟨_, rfl⟩
set_option maxRecDepth 20000 in
theorem tab_some {s : ByteArray} {i : Int} (h : s.size = 256) (h0 : 0 ≤ i) (h1 : i < 256) : ∃ k, (((sidx s i).bind fun e => some (w64 (0 + w64 e.n))).bind fun y => some y) = some k := by
  obtain ⟨k, hk⟩ := bind_sidx (g := fun e => w64 (0 + w64 e.n)) h h0 h1
  rw [hk]
  exact ⟨k, rfl⟩
set_option maxRecDepth 20000 in
theorem len8 {fu : Nat} {x : U64} (h0 : 0 ≤ x.n) (h : x.n < 256) : ∃ k, math_bits_Len fu x = some k := by
  unfold math_bits_Len math_bits_Len64
  have a1 : ¬ x.n ≥ 4294967296 := by omega
  have a2 : ¬ x.n ≥ 65536 := by omega
  have a3 : ¬ x.n ≥ 256 := by omega
  rw [if_neg (by simpa using a1), if_neg (by simpa using a2), if_neg (by simpa using a3)]
  have hw : wu8 x.n = x.n := by unfold wu8; omega
  rw [hw]
  exact tab_some rfl h0 h
theorem sort_ok {fu : Nat} (hfu : 2097153 ≤ fu) (l : List Int) (h : l.length ≤ 12) : ∃ l', slices_Sort_int_int fu l = some l' ∧ l'.Perm l := by
  unfold slices_Sort_int_int slices_pdqsortOrdered_int
  obtain ⟨k, hk⟩ := len8 (fu := fu) (x := (⟨wu64 (l.length : Int)⟩ : U64)) (by simp only [wu64]; omega) (by simp only [wu64]; omega)
  obtain ⟨fk, rfl⟩ := Nat.exists_eq_succ_of_ne_zero (show fu ≠ 0 by omega)
  obtain ⟨l', i', h1, h2⟩ := ins_all (fu := fk.succ) l.length (by omega) (by omega) fk.succ 1 l (by omega) (by omega) rfl
  rw [hk, Option.bind_some, slices_pdqsortOrdered_int_L1]
  have hd : decide (w64 ((l.length : Int) - 0) ≤ 12) = true := by rw [w64_in (by omega) (by omega)]; simp; omega
  have h01 : w64 (0 + 1) = ((1 : Nat) : Int) := by decide
  simp only [hd, if_true, slices_insertionSortOrdered_int, h01, h1, Option.bind_some]
  exact ⟨_, rfl, h2⟩
theorem compact_loop {fu : Nat} (l : List Int) (hn : l.Nodup) (hl : l.length ≤ 2097152) : ∀ (fk k : Nat), l.length - k < fk → 1 ≤ k → ∃ z, slices_Compact_int_int_L1 fu l fk k = some (.next z) := by
  intro fk
  induction fk with
  | zero => intro k h; omega
  | succ fk ih =>
    intro k hk h1
    rw [slices_Compact_int_int_L1]
    by_cases h : k < l.length
    · have h' : (k : Int) < (l.length : Int) := by omega
      have hne : (l[k] == l[k - 1]) = false := by
        rw [beq_eq_false_iff_ne]
        intro e
        have := (List.getElem_inj hn).1 e
        omega
      simp only [h', decide_true, if_true, idx_in h, w64_dec (show 0 < k by omega) (show k ≤ 2097152 by omega), idx_in (show k - 1 < l.length by omega), Option.bind_some, hne, Bool.false_eq_true, if_false, w64_inc h (show (l.length : Int) ≤ 9223372036854775807 by omega)]
      exact ih (k + 1) (by omega) (by omega)
    · have h' : ¬ (k : Int) < (l.length : Int) := by omega
      simp only [h', decide_false, Bool.false_eq_true, if_false]
      exact ⟨_, rfl⟩
theorem compact_ok {fu : Nat} (l : List Int) (hn : l.Nodup) (hl : l.length ≤ 2097152) (hfu : 2097153 ≤ fu) : slices_Compact_int_int fu l = some l := by
  unfold slices_Compact_int_int
  obtain ⟨z, hz⟩ := compact_loop (fu := fu) l hn hl fu 1 (by omega) (by omega)
  rw [show ((1 : Nat) : Int) = 1 from rfl] at hz
  rw [hz]
  split <;> rfl
def meets (a b : List Int) : Bool := a.any fun x => b.any fun y => y == x
theorem common_loop {fu : Nat} (a b : List Int) (ha : a.length ≤ 2097152) (hb : b.length ≤ 2097152) (hfu : 2097153 ≤ fu) : ∀ (fk i : Nat) (out : List Int), a.length - i < fk → i ≤ a.length → out.length ≤ i → ∃ z, impl_common_L1 fu a b fk out i = some (out ++ (a.drop i).filter (fun x => b.any fun y => y == x), z) := by
  intro fk
  induction fk with
  | zero => intro i _ h; omega
  | succ fk ih =>
    intro i out hk hi ho
    rw [impl_common_L1]
    by_cases h : i < a.length
    · have h' : (i : Int) < (a.length : Int) := by omega
      simp only [h', decide_true, if_true, idx_in h, Option.bind_some, containsI_eq b a[i] (show b.length < fu by omega) hb]
      rw [← List.getElem_cons_drop h, List.filter_cons]
      by_cases hc : (b.any fun y => y == a[i]) = true
      · rw [if_pos hc, if_pos hc, app_ok (by simp; omega), Option.bind_some, w64_inc h (by omega)]
        obtain ⟨z, hz⟩ := ih (i + 1) (out ++ [a[i]]) (by omega) h (by simp; omega)
        exact ⟨z, by rw [hz, List.append_assoc]; rfl⟩
      · rw [if_neg hc, if_neg hc, w64_inc h (by omega)]
        exact ih (i + 1) out (by omega) h (by omega)
    · obtain rfl : i = a.length := by omega
      have h' : ¬ ((a.length : Nat) : Int) < (a.length : Int) := by omega
      simp only [h', decide_false, Bool.false_eq_true, if_false, List.drop_length, List.filter_nil, List.append_nil]
      exact ⟨_, rfl⟩
theorem filter_pos {a b : List Int} : (0 < (a.filter fun x => b.any fun y => y == x).length) ↔ meets a b = true := by
  unfold meets
  rw [List.length_pos_iff_exists_mem, List.any_eq_true]
  constructor
  · rintro ⟨x, hx⟩
    rw [List.mem_filter] at hx
    exact ⟨x, hx⟩
  · rintro ⟨x, hx⟩
    exact ⟨x, List.mem_filter.2 hx⟩
theorem common_ok {fu : Nat} (a b : List Int) (ha : a.length ≤ 12) (hn : a.Nodup) (hb : b.length ≤ 2097152) (hfu : 2097153 ≤ fu) : ∃ c, impl_common fu a b = some c ∧ decide ((c.length : Int) > 0) = meets a b := by
  unfold impl_common
  obtain ⟨z, hz⟩ := common_loop a b (by omega) hb hfu fu 0 [] (by omega) (by omega) (by simp)
  rw [show ((0 : Nat) : Int) = 0 from rfl] at hz
  simp only [hz, Option.bind_some, List.nil_append, List.drop_zero]
  have hlen : (a.filter fun x => b.any fun y => y == x).length ≤ 12 := Nat.le_trans (List.length_filter_le _ _) ha
  obtain ⟨l', h1, h2⟩ := sort_ok hfu (a.filter fun x => b.any fun y => y == x) hlen
  have hnd : l'.Nodup := h2.nodup_iff.2 (hn.filter _)
  have hl' := h2.length_eq
  rw [h1, Option.bind_some, compact_ok l' hnd (by omega) hfu]
  refine ⟨l', rfl, ?_⟩
  rw [Bool.eq_iff_iff, decide_eq_true_eq, ← filter_pos]
  omega
end AT

namespace AT
theorem uses_eq {fu : Nat} (hfu : 2097153 ≤ fu) (r : Route) (g : List Int) (hr : r.Fibers.length ≤ 2097152) (hg : g.length ≤ 2097152) : spec_l4Uses fu r g = some (meets r.Fibers g) := by
  unfold spec_l4Uses
  rw [scan_all (l := r.Fibers) (G := spec_l4Uses_L1 fu r g) (fun x => g.any fun y => y == x) (fun i => true) (by omega)
    (fun fk i hi => by
      have h' : (i : Int) < (r.Fibers.length : Int) := by omega
      rw [spec_l4Uses_L1]
      simp only [h', decide_true, if_true, idx_in hi, Option.bind_some, l1Has_eq g r.Fibers[i] (show g.length < fu by omega) hg])
    (fun fk => by rw [spec_l4Uses_L1, if_neg (by simp)]) fu (by omega)]
  unfold meets
  cases r.Fibers.any fun x => g.any fun y => y == x <;> rfl
def blkOk (b : Block) : Bool := decide (0 ≤ b.First) && (decide (1 ≤ b.Count) && decide (b.First + b.Count ≤ 24))
theorem l8Good_eq (fu : Nat) (b : Block) : spec_l8Good fu b = some (blkOk b) := by
  unfold spec_l8Good blkOk
  simp only [l1In_eq, Option.bind_some]
  by_cases h : 0 ≤ b.First ∧ b.First ≤ 23
  · have hc : (decide (0 ≤ b.First) && decide (b.First ≤ 23)) = true := by simpa using h
    rw [w64_in (by omega) (by omega)]
    simp only [hc, if_true, Option.bind_some, Option.some.injEq]
    rw [Bool.eq_iff_iff]
    simp only [Bool.and_eq_true, decide_eq_true_eq]
    omega
  · have hc : (decide (0 ≤ b.First) && decide (b.First ≤ 23)) = false := by rw [Bool.eq_false_iff]; simp only [ne_eq, Bool.and_eq_true, decide_eq_true_eq]; exact h
    simp only [hc, Bool.false_eq_true, if_false, Option.bind_some, Option.some.injEq]
    rw [Bool.eq_iff_iff]
    simp only [Bool.and_eq_true, decide_eq_true_eq, Bool.false_eq_true, false_iff]
    omega
theorem implBlk_eq (fu : Nat) (b : Block) : impl_IsValidBlock fu b = some (blkOk b) := by
  unfold impl_IsValidBlock blkOk
  simp only [within_eq, Option.bind_some]
  by_cases h0 : 0 ≤ b.First
  · by_cases h : 1 ≤ b.Count ∧ b.Count ≤ 24
    · have hc : (decide (1 ≤ b.Count) && decide (b.Count ≤ 24)) = true := by simpa using h
      rw [w64_in (by omega) (by omega)]
      simp only [ge_iff_le, h0, hc, decide_true, if_true, Option.bind_some, Option.some.injEq, Bool.true_and]
      rw [Bool.eq_iff_iff]
      simp only [Bool.and_eq_true, decide_eq_true_eq]
      omega
    · have hc : (decide (1 ≤ b.Count) && decide (b.Count ≤ 24)) = false := by rw [Bool.eq_false_iff]; simp only [ne_eq, Bool.and_eq_true, decide_eq_true_eq]; exact h
      simp only [ge_iff_le, h0, hc, decide_true, if_true, Bool.false_eq_true, if_false, Option.bind_some, Option.some.injEq]
      rw [Bool.eq_iff_iff]
      simp only [Bool.and_eq_true, decide_eq_true_eq, Bool.false_eq_true, false_iff]
      omega
  · simp [h0]
def bits (b : Block) : Int := (2 ^ b.Count.toNat - 1) * 2 ^ b.First.toNat
theorem pow_le24 {k : Nat} (h : k ≤ 24) : (1 : Int) ≤ 2 ^ k ∧ (2 : Int) ^ k ≤ 16777216 := by
  have h1 : (2 : Nat) ^ k ≤ 2 ^ 24 := Nat.pow_le_pow_right (by omega) h
  have h2 : 1 ≤ (2 : Nat) ^ k := Nat.one_le_two_pow
  have h3 : ((2 ^ k : Nat) : Int) = 2 ^ k := by norm_cast
  omega
theorem bits_bound {b : Block} (h : blkOk b = true) : 0 ≤ bits b ∧ bits b < 16777216 := by
  simp only [blkOk, Bool.and_eq_true, decide_eq_true_eq] at h
  have e : (2 : Int) ^ b.Count.toNat * 2 ^ b.First.toNat = 2 ^ (b.Count.toNat + b.First.toNat) := (Int.pow_add _ _ _).symm
  have h1 := pow_le24 (show b.Count.toNat ≤ 24 by omega)
  have h2 := pow_le24 (show b.First.toNat ≤ 24 by omega)
  have h3 := pow_le24 (show b.Count.toNat + b.First.toNat ≤ 24 by omega)
  unfold bits
  rw [Int.sub_mul, e, Int.one_mul]
  refine ⟨?_, by omega⟩
  have h4 : (2 : Int) ^ b.First.toNat ≤ 2 ^ (b.Count.toNat + b.First.toNat) := by
    have : (2 : Nat) ^ b.First.toNat ≤ 2 ^ (b.Count.toNat + b.First.toNat) := Nat.pow_le_pow_right (by omega) (by omega)
    have e1 : ((2 ^ b.First.toNat : Nat) : Int) = 2 ^ b.First.toNat := by norm_cast
    have e2 : ((2 ^ (b.Count.toNat + b.First.toNat) : Nat) : Int) = 2 ^ (b.Count.toNat + b.First.toNat) := by norm_cast
    omega
  omega
theorem shl_bits {b : Block} (h : blkOk b = true) : ((shl 1 b.Count).bind fun q => (shl (w64 (q - 1)) b.First).bind fun q2 => some q2) = some (bits b) := by
  have hb := bits_bound h
  simp only [blkOk, Bool.and_eq_true, decide_eq_true_eq] at h
  have h1 := pow_le24 (show b.Count.toNat ≤ 24 by omega)
  have m1 : min b.Count.toNat 64 = b.Count.toNat := by omega
  have m2 : min b.First.toNat 64 = b.First.toNat := by omega
  unfold shl
  rw [if_neg (show ¬ b.Count < 0 by omega), Option.bind_some, if_neg (show ¬ b.First < 0 by omega), m1, m2, Int.one_mul, w64_in (n := 2 ^ b.Count.toNat) (by omega) (by omega), w64_in (n := 2 ^ b.Count.toNat - 1) (by omega) (by omega)]
  have : (2 ^ b.Count.toNat - 1) * 2 ^ b.First.toNat = bits b := rfl
  rw [this, w64_in (by omega) (by omega)]
  rfl
theorem maskOf_eq {fu : Nat} {b : Block} (h : blkOk b = true) : impl_maskOf fu b = some (bits b) := shl_bits h
theorem wu64_in {n : Int} (h : 0 ≤ n) (h' : n < 18446744073709551616) : wu64 n = n := by unfold wu64; omega
theorem l8Bits_eq {fu : Nat} {b : Block} (h : blkOk b = true) : spec_l8Bits fu b = some (bits b) := by
  unfold spec_l8Bits
  have h' := h
  simp only [blkOk, Bool.and_eq_true, decide_eq_true_eq] at h'
  rw [wu64_in (by omega) (by omega), wu64_in (by omega) (by omega)]
  exact shl_bits h
def lightOk (n : Network) (x : Light) : Bool := (decide (1 ≤ x.Id) && decide (x.Id ≤ 999)) && ((rnodes n x.Route).isSome && blkOk x.Block)
theorem isLight_eq {fu : Nat} (hfu : 2097153 ≤ fu) (n : Network) (x : Light) (hB : NetB n) (hr : x.Route.Fibers.length ≤ 2097152) : impl_isLight fu n x = some (lightOk n x) := by
  unfold impl_isLight lightOk
  rw [visited_eq hfu n x.Route hB.2 hB.1.1 hr]
  simp only [within_eq, implBlk_eq, Option.bind_some]
  cases rnodes n x.Route with
  | none => simp
  | some o => cases hc : (decide (1 ≤ x.Id) && decide (x.Id ≤ 999)) <;> simp [hc]
theorem l9Light_eq {fu : Nat} (hfu : 2097153 ≤ fu) (n : Network) (x : Light) (hB : NetB n) (hn : netOk n = true) (hr : x.Route.Fibers.length ≤ 2097152) : spec_l9Light fu n x = some (lightOk n x) := by
  unfold spec_l9Light lightOk
  simp only [l1In_eq, l8Good_eq, l4Good_eq hfu n x.Route hB hr, hn, Bool.true_and, Option.bind_some]
  cases hc : (decide (1 ≤ x.Id) && decide (x.Id ≤ 999))
  · simp
  · cases (rnodes n x.Route).isSome <;> simp
def coll (a b : Light) : Bool := meets a.Route.Fibers b.Route.Fibers && (band (bits a.Block) (bits b.Block) != 0)
structure LightF (n : Network) (x : Light) : Prop where
  nodup : x.Route.Fibers.Nodup
  short : x.Route.Fibers.length ≤ 7
  blk : blkOk x.Block = true
  route : ∃ o, rnodes n x.Route = some o
  id : 1 ≤ x.Id ∧ x.Id ≤ 999
theorem lightF {n : Network} {x : Light} (hn : netOk n = true) (h : lightOk n x = true) : LightF n x := by
  unfold lightOk at h
  simp only [Bool.and_eq_true, decide_eq_true_eq] at h
  obtain ⟨h1, h2, h3⟩ := h
  obtain ⟨o, ho⟩ := Option.isSome_iff_exists.1 h2
  have hf := rnodes_facts (netF hn) ho
  exact ⟨hf.2.2.1, hf.2.2.2.1, h3, ⟨o, ho⟩, h1⟩
theorem l9Collide_eq {fu : Nat} (hfu : 2097153 ≤ fu) {n : Network} {a b : Light} (ha : LightF n a) (hb : LightF n b) : spec_l9Collide fu a b = some (coll a b) := by
  unfold spec_l9Collide coll
  have h1 := ha.short
  have h2 := hb.short
  rw [uses_eq hfu a.Route b.Route.Fibers (by omega) (by omega)]
  simp only [l8Bits_eq ha.blk, l8Bits_eq hb.blk, Option.bind_some]
  cases meets a.Route.Fibers b.Route.Fibers <;> simp
theorem and_of (q m : Bool) : ((if q = true then some m else some false).bind fun c => some c) = some (m && q) := by cases q <;> cases m <;> rfl
theorem collide_eq {fu : Nat} (hfu : 2097153 ≤ fu) {n : Network} {a b : Light} (ha : LightF n a) (hb : LightF n b) : impl_collide fu a b = some (coll a b) := by
  unfold impl_collide coll
  have h1 := ha.short
  have h2 := hb.short
  obtain ⟨c, hc, hd⟩ := common_ok (fu := fu) a.Route.Fibers b.Route.Fibers (by omega) ha.nodup (by omega) hfu
  rw [maskOf_eq ha.blk, Option.bind_some, maskOf_eq hb.blk, Option.bind_some, hc, Option.bind_some, hd]
  exact and_of _ _
theorem scan_prev {α R : Type} {l : List α} {G : Nat → Int → Option (Out Int R)} (p : Nat → Bool) (r : Nat → R) (hn : (l.length : Int) ≤ 9223372036854775807)
    (hG : ∀ fk (i : Nat) (h : i < l.length), (∀ j, j < i → p j = false) → G (fk + 1) i = if p i = true then some (.ret (r i)) else G fk (w64 ((i : Int) + 1)))
    (hz : ∀ fk, G (fk + 1) l.length = some (.next (l.length : Int))) : ∀ (fk i : Nat), l.length - i < fk → i ≤ l.length → (∀ j, j < i → p j = false) →
    (∃ k, k < l.length ∧ i ≤ k ∧ p k = true ∧ (∀ j, j < k → p j = false) ∧ G fk i = some (.ret (r k))) ∨ ((∀ j, j < l.length → p j = false) ∧ G fk i = some (.next (l.length : Int))) := by
  intro fk
  induction fk with
  | zero => intro i h; omega
  | succ fk ih =>
    intro i hk hi hp
    by_cases h : i < l.length
    · rw [hG fk i h hp]
      by_cases hc : p i = true
      · rw [if_pos hc]
        exact .inl ⟨i, h, Nat.le_refl _, hc, hp, rfl⟩
      · rw [if_neg hc, w64_inc h hn]
        rw [Bool.not_eq_true] at hc
        have hp' : ∀ j, j < i + 1 → p j = false := fun j hj => by
          rcases Nat.lt_or_ge j i with h' | h'
          · exact hp j h'
          · obtain rfl : j = i := by omega
            exact hc
        rcases ih (i + 1) (by omega) h hp' with ⟨k, k1, k2, k3, k4, k5⟩ | ⟨h1, h2⟩
        · exact .inl ⟨k, k1, by omega, k3, k4, k5⟩
        · exact .inr ⟨h1, h2⟩
    · obtain rfl : i = l.length := by omega
      rw [hz]
      exact .inr ⟨hp, rfl⟩
theorem scan_any {α R : Type} {l : List α} {G : Nat → Int → Option (Out Int R)} (p : Nat → Bool) (r : R) (hn : (l.length : Int) ≤ 9223372036854775807)
    (hG : ∀ fk (i : Nat) (h : i < l.length), (∀ j, j < i → p j = false) → G (fk + 1) i = if p i = true then some (.ret r) else G fk (w64 ((i : Int) + 1)))
    (hz : ∀ fk, G (fk + 1) l.length = some (.next (l.length : Int))) (fk : Nat) (hk : l.length < fk) : G fk 0 = some (if (List.range l.length).any p = true then .ret r else .next (l.length : Int)) := by
  rcases scan_prev p (fun _ => r) hn hG hz fk 0 (by omega) (by omega) (fun j h => by omega) with ⟨k, k1, -, k3, -, k5⟩ | ⟨h1, h2⟩
  · rw [if_pos (List.any_eq_true.2 ⟨k, List.mem_range.2 k1, k3⟩)]
    exact k5
  · rw [if_neg]
    · exact h2
    · intro h
      obtain ⟨k, k1, k2⟩ := List.any_eq_true.1 h
      rw [h1 k (List.mem_range.1 k1)] at k2
      cases k2
def l0 : Light := ⟨0, ⟨0, []⟩, ⟨0, 0⟩⟩
def planBad (n : Network) (L : List Light) (i : Nat) : Bool := !lightOk n (gd L i l0) || ((decide (0 < i) && decide ((gd L (i - 1) l0).Id ≥ (gd L i l0).Id)) || (L.take i).any fun y => coll y (gd L i l0))
def planOk (p : Plan) : Bool := netOk p.Network && (decide (p.Lights.length ≤ 12) && !((List.range p.Lights.length).any (planBad p.Network p.Lights)))
def PlanB (p : Plan) : Prop := NetB p.Network ∧ p.Lights.length ≤ 2097152 ∧ ∀ x ∈ p.Lights, x.Route.Fibers.length ≤ 2097152
theorem prev_ok {n : Network} {L : List Light} {i : Nat} (h : i < L.length) (hp : ∀ j, j < i → planBad n L j = false) : ∀ y ∈ L.take i, lightOk n y = true := by
  intro y hy
  obtain ⟨j, hj, rfl⟩ := List.mem_iff_getElem.1 hy
  rw [List.length_take] at hj
  rw [List.getElem_take]
  have := hp j (by omega)
  unfold planBad at this
  rw [Bool.or_eq_false_iff, gd_in l0 (show j < L.length by omega)] at this
  simpa using this.1
theorem containsC_eq {fu : Nat} (hfu : 2097153 ≤ fu) {n : Network} (l : List Light) (x : Light) (hl : l.length ≤ 2097152) (hL : ∀ y ∈ l, LightF n y) (hx : LightF n x) : slices_ContainsFunc_impl_Light_impl_Light_of_IsValidPlan_c1 fu l x = some (l.any fun y => coll y x) := by
  unfold slices_ContainsFunc_impl_Light_impl_Light_of_IsValidPlan_c1 slices_IndexFunc_impl_Light_impl_Light_of_IsValidPlan_c1
  rw [scan_all (l := l) (G := slices_IndexFunc_impl_Light_impl_Light_of_IsValidPlan_c1_L1 fu l x) (fun y => coll y x) (fun i => (i : Int)) (by omega)
    (fun fk i hi => by
      have h' : (i : Int) < (l.length : Int) := by omega
      rw [slices_IndexFunc_impl_Light_impl_Light_of_IsValidPlan_c1_L1]
      simp only [h', decide_true, if_true, idx_in hi, Option.bind_some, impl_IsValidPlan_c1, collide_eq hfu (hL _ (List.getElem_mem hi)) hx])
    (fun fk => by rw [slices_IndexFunc_impl_Light_impl_Light_of_IsValidPlan_c1_L1, if_neg (by simp)]) fu (by omega)]
  cases l.any fun y => coll y x <;> simp [Out.on]
theorem implPlan_eq {fu : Nat} (hfu : 2097153 ≤ fu) (p : Plan) (hB : PlanB p) : impl_IsValidPlan fu p = some (planOk p) := by
  obtain ⟨hN, hL, hR⟩ := hB
  unfold impl_IsValidPlan planOk
  rw [implNet_eq hfu _ hN, Option.bind_some]
  cases hn : netOk p.Network
  · rfl
  · simp only [Bool.not_true, Bool.false_eq_true, if_false, Option.bind_some, Bool.true_and]
    by_cases h12 : p.Lights.length ≤ 12
    · have h12' : ¬ (p.Lights.length : Int) > 12 := by omega
      simp only [h12', decide_false, Bool.false_eq_true, if_false, h12, decide_true, Bool.true_and]
      rw [scan_any (l := p.Lights) (G := impl_IsValidPlan_L1 fu p) (planBad p.Network p.Lights) false (by omega)
        (fun fk i hi hp => by
          have h' : (i : Int) < (p.Lights.length : Int) := by omega
          have hr := hR _ (gd_mem l0 hi)
          rw [impl_IsValidPlan_L1]
          simp only [h', decide_true, if_true, idx_gd l0 hi, Option.bind_some, isLight_eq hfu _ _ hN hr, sub_take (show i ≤ p.Lights.length by omega)]
          by_cases hl : lightOk p.Network (gd p.Lights i l0) = true
          · have hf := lightF hn hl
            have hc := containsC_eq hfu (p.Lights.take i) (gd p.Lights i l0) (by simp; omega) (fun y hy => lightF hn (prev_ok hi hp y hy)) hf
            simp only [planBad, hl, Bool.not_true, Bool.false_eq_true, if_false, hc, Option.bind_some, Bool.false_or]
            by_cases h0 : 0 < i
            · have h0' : (i : Int) > 0 := by omega
              simp only [h0', h0, decide_true, if_true, w64_dec h0 (show i ≤ 2097152 by omega), idx_gd l0 (show i - 1 < p.Lights.length by omega), Option.bind_some, Bool.true_and]
              by_cases hid : (gd p.Lights (i - 1) l0).Id ≥ (gd p.Lights i l0).Id
              · simp [hid]
              · simp only [hid, decide_false, Bool.false_eq_true, if_false, Bool.false_or, Option.bind_some]
            · have h0' : ¬ (i : Int) > 0 := by omega
              simp only [h0', h0, decide_false, Bool.false_eq_true, if_false, Bool.false_and, Bool.false_or, Option.bind_some]
          · rw [Bool.not_eq_true] at hl
            simp [planBad, hl])
        (fun fk => by rw [impl_IsValidPlan_L1, if_neg (by simp)]) fu (by omega)]
      cases (List.range p.Lights.length).any (planBad p.Network p.Lights) <;> rfl
    · have h12' : (p.Lights.length : Int) > 12 := by omega
      simp [h12', h12]
theorem specPlan_eq {fu : Nat} (hfu : 2097153 ≤ fu) (p : Plan) (hB : PlanB p) : spec_l9Good fu p = some (planOk p) := by
  obtain ⟨hN, hL, hR⟩ := hB
  unfold spec_l9Good planOk
  rw [specNet_eq hfu _ hN, Option.bind_some]
  cases hn : netOk p.Network
  · rfl
  · simp only [Bool.not_true, Bool.false_eq_true, if_false, Option.bind_some, Bool.true_and]
    by_cases h12 : p.Lights.length ≤ 12
    · have h12' : ¬ (p.Lights.length : Int) > 12 := by omega
      simp only [h12', decide_false, Bool.false_eq_true, if_false, h12, decide_true, Bool.true_and]
      rw [scan_any (l := p.Lights) (G := spec_l9Good_L1 fu p) (planBad p.Network p.Lights) false (by omega)
        (fun fk i hi hp => by
          have h' : (i : Int) < (p.Lights.length : Int) := by omega
          have hr := hR _ (gd_mem l0 hi)
          rw [spec_l9Good_L1]
          simp only [h', decide_true, if_true, idx_gd l0 hi, Option.bind_some, l9Light_eq hfu _ _ hN hn hr]
          by_cases hl : lightOk p.Network (gd p.Lights i l0) = true
          · have hf := lightF hn hl
            have hc : spec_l9Good_L2 fu p i fu 0 = some (if (List.range (p.Lights.take i).length).any (fun k => coll (gd p.Lights k l0) (gd p.Lights i l0)) = true then .ret false else .next ((p.Lights.take i).length : Int)) :=
              scan_any (l := p.Lights.take i) (G := spec_l9Good_L2 fu p i) (fun k => coll (gd p.Lights k l0) (gd p.Lights i l0)) false (by simp; omega)
                (fun fk k hk _ => by
                  have hk' : k < i := by simp at hk; omega
                  have hk2 : (k : Int) < (i : Int) := by omega
                  have hfk := lightF hn (prev_ok hi hp (gd p.Lights k l0) (by
                    rw [gd_in l0 (show k < p.Lights.length by omega)]
                    refine List.mem_iff_getElem.2 ⟨k, hk, by rw [List.getElem_take]⟩))
                  rw [spec_l9Good_L2]
                  simp only [hk2, decide_true, if_true, idx_gd l0 hi, idx_gd l0 (show k < p.Lights.length by omega), Option.bind_some, l9Collide_eq hfu hfk hf])
                (fun fk => by
                  have : (p.Lights.take i).length = i := by simp; omega
                  rw [this, spec_l9Good_L2, if_neg (by simp)]) fu (by simp; omega)
            have ha : (List.range (p.Lights.take i).length).any (fun k => coll (gd p.Lights k l0) (gd p.Lights i l0)) = (p.Lights.take i).any fun y => coll y (gd p.Lights i l0) := by
              rw [Bool.eq_iff_iff, List.any_eq_true, List.any_eq_true]
              constructor
              · rintro ⟨k, k1, k2⟩
                have k1' := List.mem_range.1 k1
                have hk' : k < i := by simp at k1'; omega
                rw [gd_in l0 (show k < p.Lights.length by omega)] at k2
                exact ⟨_, List.mem_iff_getElem.2 ⟨k, k1', by rw [List.getElem_take]⟩, k2⟩
              · rintro ⟨y, y1, y2⟩
                obtain ⟨k, k1, rfl⟩ := List.mem_iff_getElem.1 y1
                have hk' : k < i := by simp at k1; omega
                refine ⟨k, List.mem_range.2 k1, ?_⟩
                rw [gd_in l0 (show k < p.Lights.length by omega)]
                rw [List.getElem_take] at y2
                exact y2
            rw [ha] at hc
            simp only [planBad, hl, Bool.not_true, Bool.false_eq_true, if_false, hc, Option.bind_some, Bool.false_or]
            by_cases h0 : 0 < i
            · have h0' : (i : Int) > 0 := by omega
              simp only [h0', h0, decide_true, if_true, w64_dec h0 (show i ≤ 2097152 by omega), idx_gd l0 (show i - 1 < p.Lights.length by omega), Option.bind_some, Bool.true_and]
              by_cases hid : (gd p.Lights (i - 1) l0).Id ≥ (gd p.Lights i l0).Id
              · simp [hid]
              · simp only [hid, decide_false, Bool.false_eq_true, if_false, Bool.false_or, Option.bind_some]
                cases (p.Lights.take i).any fun y => coll y (gd p.Lights i l0) <;> rfl
            · have h0' : ¬ (i : Int) > 0 := by omega
              simp only [h0', h0, decide_false, Bool.false_eq_true, if_false, Bool.false_and, Bool.false_or, Option.bind_some]
              cases (p.Lights.take i).any fun y => coll y (gd p.Lights i l0) <;> rfl
          · rw [Bool.not_eq_true] at hl
            simp [planBad, hl])
        (fun fk => by rw [spec_l9Good_L1, if_neg (by simp)]) fu (by omega)]
      cases (List.range p.Lights.length).any (planBad p.Network p.Lights) <;> rfl
    · have h12' : (p.Lights.length : Int) > 12 := by omega
      simp [h12', h12]
structure PlanF (p : Plan) : Prop where
  net : netOk p.Network = true
  short : p.Lights.length ≤ 12
  light : ∀ x ∈ p.Lights, LightF p.Network x
theorem planF {p : Plan} (h : planOk p = true) : PlanF p := by
  unfold planOk at h
  simp only [Bool.and_eq_true, decide_eq_true_eq, Bool.not_eq_true'] at h
  obtain ⟨h1, h2, h3⟩ := h
  refine ⟨h1, h2, fun x hx => ?_⟩
  obtain ⟨i, hi, rfl⟩ := List.mem_iff_getElem.1 hx
  rw [Bool.eq_false_iff] at h3
  have h6 : planBad p.Network p.Lights i = false := by
    rw [Bool.eq_false_iff]
    intro h7
    exact h3 (List.any_eq_true.2 ⟨i, List.mem_range.2 hi, h7⟩)
  unfold planBad at h6
  rw [Bool.or_eq_false_iff, gd_in l0 hi] at h6
  exact lightF h1 (by simpa using h6.1)
end AT

namespace AT
def apart (a b : Int) : Bool := band a b == 0
def has (l : List Int) (f : Int) : Bool := l.any fun x => x == f
def used (L : List Light) (f : Int) : Int := L.foldl (fun o y => if has y.Route.Fibers f = true then bor o (bits y.Block) else o) 0
def along (L : List Light) (fs : List Int) : Int := fs.foldl (fun o f => bor o (used L f)) 0
end AT

namespace AT
theorem used_loop {fu : Nat} (hfu : 2097153 ≤ fu) (p : Plan) (f : Int) (hl : p.Lights.length ≤ 2097152) (hb : ∀ y ∈ p.Lights, blkOk y.Block = true) (hr : ∀ x ∈ p.Lights, x.Route.Fibers.length ≤ 2097152) : ∀ (fk i : Nat) (o : Int), i ≤ p.Lights.length → p.Lights.length - i < fk →
    ∃ z, spec_l9Used_L1 fu p f fk o i = some ((p.Lights.drop i).foldl (fun o y => if has y.Route.Fibers f = true then bor o (bits y.Block) else o) o, z) := by
  intro fk
  induction fk with
  | zero => intro i _ _ h; omega
  | succ fk ih =>
    intro i o hi hk
    rw [spec_l9Used_L1]
    by_cases h : i < p.Lights.length
    · have h' : (i : Int) < (p.Lights.length : Int) := by omega
      have hm := List.getElem_mem h
      have hr' := hr _ hm
      simp only [h', decide_true, if_true, idx_in h, Option.bind_some, l1Has_eq _ f (show p.Lights[i].Route.Fibers.length < fu by omega) hr', l8Bits_eq (hb _ hm)]
      rw [← List.getElem_cons_drop h, List.foldl_cons, w64_inc h (by omega)]
      have e : (p.Lights[i].Route.Fibers.any fun x => x == f) = has p.Lights[i].Route.Fibers f := rfl
      rw [e]
      by_cases hc : has p.Lights[i].Route.Fibers f = true
      · rw [if_pos hc, if_pos hc]
        exact ih (i + 1) _ h (by omega)
      · rw [if_neg hc, if_neg hc]
        exact ih (i + 1) _ h (by omega)
    · obtain rfl : i = p.Lights.length := by omega
      rw [if_neg (by simp), List.drop_length]
      exact ⟨_, rfl⟩
theorem l9Used_eq {fu : Nat} (hfu : 2097153 ≤ fu) (p : Plan) (f : Int) (hl : p.Lights.length ≤ 2097152) (hb : ∀ y ∈ p.Lights, blkOk y.Block = true) (hr : ∀ x ∈ p.Lights, x.Route.Fibers.length ≤ 2097152) : spec_l9Used fu p f = some (used p.Lights f) := by
  unfold spec_l9Used
  obtain ⟨z, hz⟩ := used_loop hfu p f hl hb hr fu 0 0 (by omega) (by omega)
  rw [show ((0 : Nat) : Int) = 0 from rfl, List.drop_zero] at hz
  rw [hz]
  rfl
end AT

namespace AT
theorem idx_in' {α : Type} {l : List α} {f : Int} (d : α) (h0 : 0 ≤ f) (h1 : f < (l.length : Int)) : idx l f = some (gd l f.toNat d) := by
  have := idx_gd (l := l) (i := f.toNat) d (by omega)
  rwa [Int.toNat_of_nonneg h0] at this
def mark1 (b : Int) (o : List Int) (f : Int) : List Int := o.set f.toNat (bor (gd o f.toNat 0) b)
theorem marks_len (b : Int) : ∀ (fs : List Int) (o : List Int), (fs.foldl (mark1 b) o).length = o.length
  | [], o => rfl
  | f :: fs, o => by rw [List.foldl_cons, marks_len b fs]; simp [mark1]
theorem mark1_gd (b : Int) (o : List Int) (f : Int) (k : Nat) (hk : k < o.length) : gd (mark1 b o f) k 0 = if f.toNat = k then bor (gd o k 0) b else gd o k 0 := by
  unfold mark1
  generalize hv : bor (gd o f.toNat 0) b = v
  by_cases h : f.toNat = k
  · subst h
    rw [if_pos rfl, hv]
    clear hv
    unfold gd
    rw [List.getElem?_set_self hk, Option.getD_some]
  · rw [if_neg h]
    unfold gd
    rw [List.getElem?_set_ne h]
theorem has_cons (f : Int) (fs : List Int) (k : Int) : has (f :: fs) k = (f == k || has fs k) := rfl
theorem marks_gd (b : Int) (fs : List Int) : ∀ (o : List Int) (k : Nat), fs.Nodup → (∀ f ∈ fs, 0 ≤ f) → k < o.length → gd (fs.foldl (mark1 b) o) k 0 = if has fs k = true then bor (gd o k 0) b else gd o k 0 := by
  induction fs with
  | nil =>
    intro o k _ _ _
    have h : has [] (k : Int) = false := rfl
    rw [h, List.foldl_nil, if_neg Bool.false_ne_true]
  | cons f fs ih =>
    intro o k hn h0 hk
    have hn' := List.nodup_cons.1 hn
    have hf := h0 f List.mem_cons_self
    have hl : (mark1 b o f).length = o.length := by unfold mark1; rw [List.length_set]
    rw [List.foldl_cons, ih (mark1 b o f) k hn'.2 (fun x hx => h0 x (List.mem_cons_of_mem _ hx)) (by omega), mark1_gd b o f k hk, has_cons]
    by_cases h : f.toNat = k
    · have hk' : f = (k : Int) := by omega
      have h1 : has fs k = false := by
        rw [Bool.eq_false_iff]
        intro hc
        unfold has at hc
        obtain ⟨x, hx, hc⟩ := List.any_eq_true.1 hc
        rw [beq_iff_eq] at hc
        exact hn'.1 (by rw [hk', ← hc]; exact hx)
      have h2 : (f == (k : Int)) = true := by rw [beq_iff_eq]; exact hk'
      rw [h1, h2, if_pos h, if_neg Bool.false_ne_true, Bool.true_or, if_pos rfl]
    · have hk' : (f == (k : Int)) = false := by rw [beq_eq_false_iff_ne]; omega
      rw [hk', if_neg h, Bool.false_or]
theorem marks_loop {fu : Nat} (e : Light) (hb : blkOk e.Block = true) (n : Nat) (hr : ∀ f ∈ e.Route.Fibers, 0 ≤ f ∧ f < (n : Int)) (hl : e.Route.Fibers.length ≤ 2097152) : ∀ (fk i : Nat) (o : List Int), o.length = n → i ≤ e.Route.Fibers.length → e.Route.Fibers.length - i < fk →
    ∃ z, impl_fiberMasks_L2 fu e fk o i = some ((e.Route.Fibers.drop i).foldl (mark1 (bits e.Block)) o, z) := by
  intro fk
  induction fk with
  | zero => intro i _ _ _ h; omega
  | succ fk ih =>
    intro i o ho hi hk
    rw [impl_fiberMasks_L2]
    by_cases h : i < e.Route.Fibers.length
    · have h' : (i : Int) < (e.Route.Fibers.length : Int) := by omega
      obtain ⟨x, hx⟩ : ∃ x, x = e.Route.Fibers[i] := ⟨_, rfl⟩
      have hr' := hr _ (List.getElem_mem h)
      rw [← hx] at hr'
      rw [← List.getElem_cons_drop h, List.foldl_cons]
      simp only [h', decide_true, if_true, idx_in h, ← hx, Option.bind_some, idx_in' 0 hr'.1 (show x < (o.length : Int) by omega), maskOf_eq hb, w64_inc h (show (e.Route.Fibers.length : Int) ≤ 9223372036854775807 by omega)]
      exact ih (i + 1) (mark1 (bits e.Block) o x) (by simpa [mark1] using ho) h (by omega)
    · obtain rfl : i = e.Route.Fibers.length := by omega
      rw [if_neg (by simp), List.drop_length]
      exact ⟨_, rfl⟩
def markAll (L : List Light) (o : List Int) : List Int := L.foldl (fun o e => e.Route.Fibers.foldl (mark1 (bits e.Block)) o) o
theorem markAll_len : ∀ (L : List Light) (o : List Int), (markAll L o).length = o.length
  | [], o => rfl
  | e :: L, o => by
    have := markAll_len L (e.Route.Fibers.foldl (mark1 (bits e.Block)) o)
    unfold markAll at this ⊢
    rw [List.foldl_cons, this, marks_len]
theorem markAll_gd : ∀ (L : List Light) (o : List Int) (k : Nat), (∀ e ∈ L, e.Route.Fibers.Nodup ∧ ∀ f ∈ e.Route.Fibers, 0 ≤ f) → k < o.length → gd (markAll L o) k 0 = L.foldl (fun o y => if has y.Route.Fibers k = true then bor o (bits y.Block) else o) (gd o k 0)
  | [], o, k, _, _ => by unfold markAll; rw [List.foldl_nil, List.foldl_nil]
  | e :: L, o, k, h, hk => by
    have he := h e (by simp)
    have := markAll_gd L (e.Route.Fibers.foldl (mark1 (bits e.Block)) o) k (fun x hx => h x (by simp [hx])) (by rw [marks_len]; exact hk)
    unfold markAll at this ⊢
    rw [List.foldl_cons, List.foldl_cons, this, marks_gd _ _ _ _ he.1 he.2 hk]
theorem masks_loop {fu : Nat} (hfu : 2097153 ≤ fu) (p : Plan) (n : Nat) (hl : p.Lights.length ≤ 2097152) (hb : ∀ e ∈ p.Lights, blkOk e.Block = true) (hr : ∀ e ∈ p.Lights, ∀ f ∈ e.Route.Fibers, 0 ≤ f ∧ f < (n : Int)) (hs : ∀ e ∈ p.Lights, e.Route.Fibers.length ≤ 2097152) : ∀ (fk i : Nat) (o : List Int), o.length = n → i ≤ p.Lights.length → p.Lights.length - i < fk →
    ∃ z, impl_fiberMasks_L1 fu p fk o i = some (markAll (p.Lights.drop i) o, z) := by
  intro fk
  induction fk with
  | zero => intro i _ _ _ h; omega
  | succ fk ih =>
    intro i o ho hi hk
    rw [impl_fiberMasks_L1]
    by_cases h : i < p.Lights.length
    · have h' : (i : Int) < (p.Lights.length : Int) := by omega
      have hm := List.getElem_mem h
      have hsm := hs _ hm
      obtain ⟨z, hz⟩ := marks_loop (fu := fu) p.Lights[i] (hb _ hm) n (hr _ hm) hsm fu 0 o ho (by omega) (by omega)
      rw [show ((0 : Nat) : Int) = 0 from rfl, List.drop_zero] at hz
      simp only [h', decide_true, if_true, idx_in h, Option.bind_some, hz, w64_inc h (show (p.Lights.length : Int) ≤ 9223372036854775807 by omega)]
      rw [← List.getElem_cons_drop h]
      exact ih (i + 1) _ (by rw [marks_len]; exact ho) h (by omega)
    · obtain rfl : i = p.Lights.length := by omega
      rw [if_neg (by simp), List.drop_length]
      exact ⟨_, rfl⟩
def maskL (L : List Light) (n : Nat) : List Int := (List.range n).map fun f : Nat => used L (f : Int)
theorem light_in {p : Plan} (hF : PlanF p) : ∀ e ∈ p.Lights, ∀ f ∈ e.Route.Fibers, 0 ≤ f ∧ f < (p.Network.Fibers.length : Int) := fun e he => by
  obtain ⟨o, ho⟩ := (hF.light e he).route
  exact rnodes_in ho
theorem fiberMasks_eq {fu : Nat} (hfu : 2097153 ≤ fu) (p : Plan) (hB : PlanB p) (hF : PlanF p) : impl_fiberMasks fu p = some (maskL p.Lights p.Network.Fibers.length) := by
  have hn := (netF hF.net).fib
  unfold impl_fiberMasks
  rw [mk_len (show p.Network.Fibers.length ≤ 2097152 by omega), Option.bind_some]
  obtain ⟨z, hz⟩ := masks_loop hfu p p.Network.Fibers.length hB.2.1 (fun e he => (hF.light e he).blk) (light_in hF) hB.2.2 fu 0 (List.replicate p.Network.Fibers.length 0) (by simp) (by omega) (by have := hB.2.1; omega)
  rw [show ((0 : Nat) : Int) = 0 from rfl, List.drop_zero] at hz
  rw [hz, Option.bind_some]
  congr 1
  apply List.ext_getElem
  · rw [markAll_len]; simp [maskL]
  · intro k h1 h2
    rw [markAll_len, List.length_replicate] at h1
    rw [← gd_in 0, markAll_gd _ _ _ (fun e he => ⟨(hF.light e he).nodup, fun f hf => (light_in hF e he f hf).1⟩) (by simpa using h1)]
    have : gd (List.replicate p.Network.Fibers.length (0 : Int)) k 0 = 0 := by unfold gd; simp [h1]
    rw [this]
    simp [maskL, used]
theorem maskL_idx {L : List Light} {n i : Nat} (h : i < n) : idx (maskL L n) (i : Int) = some (used L (i : Int)) := by
  rw [idx_in (by simpa [maskL] using h)]
  simp [maskL]
end AT
