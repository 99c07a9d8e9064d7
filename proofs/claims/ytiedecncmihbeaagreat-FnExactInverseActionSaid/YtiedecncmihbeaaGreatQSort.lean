/- slices.Sort of few numbers, and what two lists have in common, plainly. -/
import Derived.Test.YtiedecncmihbeaaGreatQRoute
set_option linter.unusedSimpArgs false
set_option linter.unusedVariables false
namespace AT
theorem less_eq (fu : Nat) (x y : Int) : cmp_Less_int fu x y = some (decide (x < y)) := by
  unfold cmp_Less_int cmp_isNaN_int
  have e : (x != x) = false := by simp
  simp [e]
theorem ins_loop {fu : Nat} : ∀ (fk j : Nat) (l : List Int), j < fk → j < l.length → l.length ≤ 2097152 → ∃ l' j', slices_insertionSortOrdered_int_L2 fu 0 fk l j = some (l', j') ∧ l'.Perm l := by
  intro fk
  induction fk with
  | zero => intro j _ h; omega
  | succ fk ih =>
    intro j l hk hj hl
    rw [slices_insertionSortOrdered_int_L2]
    by_cases h0 : 0 < j
    · have h0' : (j : Int) > 0 := by omega
      have hj1 : j - 1 < l.length := by omega
      simp only [h0', decide_true, if_true, idx_in hj, w64_dec h0 (show j ≤ 2097152 by omega), idx_in hj1, Option.bind_some, less_eq]
      by_cases hc : l[j] < l[j - 1]
      · have hj2 : j - 1 < (l.set j l[j - 1]).length := by rw [List.length_set]; exact hj1
        simp only [hc, decide_true, if_true, Int.toNat_natCast, idx_in hj2, Option.bind_some]
        obtain ⟨l', j', h1, h2⟩ := ih (j - 1) ((l.set j l[j - 1]).set (j - 1) l[j]) (by omega) (by simp; omega) (by simpa using hl)
        exact ⟨l', j', h1, h2.trans (List.set_set_perm hj hj1)⟩
      · simp only [hc, decide_false, Bool.false_eq_true, if_false]
        exact ⟨_, _, rfl, .refl _⟩
    · have h0' : ¬ (j : Int) > 0 := by omega
      simp only [h0', decide_false, Bool.false_eq_true, if_false, Option.bind_some]
      exact ⟨_, _, rfl, .refl _⟩
theorem ins_all {fu : Nat} (n : Nat) (hn : n ≤ 2097152) (hfu : n < fu) : ∀ (fk i : Nat) (l : List Int), n - i < fk → 1 ≤ i → l.length = n → ∃ l' i', slices_insertionSortOrdered_int_L1 fu 0 n fk l i = some (l', i') ∧ l'.Perm l := by
  intro fk
  induction fk with
  | zero => intro i _ h; omega
  | succ fk ih =>
    intro i l hk hi hl
    rw [slices_insertionSortOrdered_int_L1]
    by_cases h : i < n
    · have h' : (i : Int) < (n : Int) := by omega
      obtain ⟨l', j', h1, h2⟩ := ins_loop (fu := fu) fu i l (by omega) (by omega) (by omega)
      obtain ⟨l2, i2, h3, h4⟩ := ih (i + 1) l' (by omega) (by omega) (by rw [h2.length_eq]; exact hl)
      simp only [h', decide_true, if_true, h1, Option.bind_some, w64_inc h (show (n : Int) ≤ 9223372036854775807 by omega)]
      exact ⟨l2, i2, h3, h4.trans h2⟩
    · have h' : ¬ (i : Int) < (n : Int) := by omega
      simp only [h', decide_false, Bool.false_eq_true, if_false]
      exact ⟨_, _, rfl, .refl _⟩
theorem bind_sidx {s : ByteArray} {i : Int} {g : By → Int} (h : s.size = 256) (h0 : 0 ≤ i) (h1 : i < 256) : ∃ k, ((sidx s i).bind fun e => some (g e)) = some k := by
  unfold sidx
  have e : s[i.toNat]? = some (s[i.toNat]'(by omega)) := by simp
  rw [if_pos h0, e]
  exact ⟨_, rfl⟩
set_option maxRecDepth 20000 in
theorem tab_some {s : ByteArray} {i : Int} (h : s.size = 256) (h0 : 0 ≤ i) (h1 : i < 256) : ∃ k, (((sidx s i).bind fun e => some (w64 (0 + w64 e.n))).bind fun y => some y) = some k := by
  obtain ⟨k, hk⟩ := bind_sidx (g := fun e => w64 (0 + w64 e.n)) h h0 h1
  rw [hk]
  exact ⟨k, rfl⟩
set_option maxRecDepth 20000 in
theorem len8 {fu : Nat} {x : U64} (h0 : 0 ≤ x.n) (h : x.n < 256) : ∃ k, math_bits_Len fu x = some k := by
  unfold math_bits_Len math_bits_Len64
  have a1 : ¬ x.n ≥ 4294967296 := by omega
  have a2 : ¬ x.n ≥ 65536 := by omega
  have a3 : ¬ x.n ≥ 256 := by omega
  rw [if_neg (by simpa using a1), if_neg (by simpa using a2), if_neg (by simpa using a3)]
  have hw : wu8 x.n = x.n := by unfold wu8; omega
  rw [hw]
  exact tab_some rfl h0 h
theorem sort_ok {fu : Nat} (hfu : 2097153 ≤ fu) (l : List Int) (h : l.length ≤ 12) : ∃ l', slices_Sort_int_int fu l = some l' ∧ l'.Perm l := by
  unfold slices_Sort_int_int slices_pdqsortOrdered_int
  obtain ⟨k, hk⟩ := len8 (fu := fu) (x := (⟨wu64 (l.length : Int)⟩ : U64)) (by simp only [wu64]; omega) (by simp only [wu64]; omega)
  obtain ⟨fk, rfl⟩ := Nat.exists_eq_succ_of_ne_zero (show fu ≠ 0 by omega)
  obtain ⟨l', i', h1, h2⟩ := ins_all (fu := fk.succ) l.length (by omega) (by omega) fk.succ 1 l (by omega) (by omega) rfl
  rw [hk, Option.bind_some, slices_pdqsortOrdered_int_L1]
  have hd : decide (w64 ((l.length : Int) - 0) ≤ 12) = true := by rw [w64_in (by omega) (by omega)]; simp; omega
  have h01 : w64 (0 + 1) = ((1 : Nat) : Int) := by decide
  simp only [hd, if_true, slices_insertionSortOrdered_int, h01, h1, Option.bind_some]
  exact ⟨_, rfl, h2⟩
theorem compact_loop {fu : Nat} (l : List Int) (hn : l.Nodup) (hl : l.length ≤ 2097152) : ∀ (fk k : Nat), l.length - k < fk → 1 ≤ k → ∃ z, slices_Compact_int_int_L1 fu l fk k = some (.next z) := by
  intro fk
  induction fk with
  | zero => intro k h; omega
  | succ fk ih =>
    intro k hk h1
    rw [slices_Compact_int_int_L1]
    by_cases h : k < l.length
    · have h' : (k : Int) < (l.length : Int) := by omega
      have hne : (l[k] == l[k - 1]) = false := by
        rw [beq_eq_false_iff_ne]
        intro e
        have := (List.getElem_inj hn).1 e
        omega
      simp only [h', decide_true, if_true, idx_in h, w64_dec (show 0 < k by omega) (show k ≤ 2097152 by omega), idx_in (show k - 1 < l.length by omega), Option.bind_some, hne, Bool.false_eq_true, if_false, w64_inc h (show (l.length : Int) ≤ 9223372036854775807 by omega)]
      exact ih (k + 1) (by omega) (by omega)
    · have h' : ¬ (k : Int) < (l.length : Int) := by omega
      simp only [h', decide_false, Bool.false_eq_true, if_false]
      exact ⟨_, rfl⟩
theorem compact_ok {fu : Nat} (l : List Int) (hn : l.Nodup) (hl : l.length ≤ 2097152) (hfu : 2097153 ≤ fu) : slices_Compact_int_int fu l = some l := by
  unfold slices_Compact_int_int
  obtain ⟨z, hz⟩ := compact_loop (fu := fu) l hn hl fu 1 (by omega) (by omega)
  rw [show ((1 : Nat) : Int) = 1 from rfl] at hz
  rw [hz]
  split <;> rfl
/-- Has one list a number of the other? -/
def meets (a b : List Int) : Bool := a.any fun x => b.any fun y => y == x
theorem common_loop {fu : Nat} (a b : List Int) (ha : a.length ≤ 2097152) (hb : b.length ≤ 2097152) (hfu : 2097153 ≤ fu) : ∀ (fk i : Nat) (out : List Int), a.length - i < fk → i ≤ a.length → out.length ≤ i → ∃ z, impl_common_L1 fu a b fk out i = some (out ++ (a.drop i).filter (fun x => b.any fun y => y == x), z) := by
  intro fk
  induction fk with
  | zero => intro i _ h; omega
  | succ fk ih =>
    intro i out hk hi ho
    rw [impl_common_L1]
    by_cases h : i < a.length
    · have h' : (i : Int) < (a.length : Int) := by omega
      simp only [h', decide_true, if_true, idx_in h, Option.bind_some, containsI_eq b a[i] (show b.length < fu by omega) hb]
      rw [← List.getElem_cons_drop h, List.filter_cons]
      by_cases hc : (b.any fun y => y == a[i]) = true
      · rw [if_pos hc, if_pos hc, app_ok (by simp; omega), Option.bind_some, w64_inc h (by omega)]
        obtain ⟨z, hz⟩ := ih (i + 1) (out ++ [a[i]]) (by omega) h (by simp; omega)
        exact ⟨z, by rw [hz, List.append_assoc]; rfl⟩
      · rw [if_neg hc, if_neg hc, w64_inc h (by omega)]
        exact ih (i + 1) out (by omega) h (by omega)
    · obtain rfl : i = a.length := by omega
      have h' : ¬ ((a.length : Nat) : Int) < (a.length : Int) := by omega
      simp only [h', decide_false, Bool.false_eq_true, if_false, List.drop_length, List.filter_nil, List.append_nil]
      exact ⟨_, rfl⟩
theorem filter_pos {a b : List Int} : (0 < (a.filter fun x => b.any fun y => y == x).length) ↔ meets a b = true := by
  unfold meets
  rw [List.length_pos_iff_exists_mem, List.any_eq_true]
  constructor
  · rintro ⟨x, hx⟩
    rw [List.mem_filter] at hx
    exact ⟨x, hx⟩
  · rintro ⟨x, hx⟩
    exact ⟨x, List.mem_filter.2 hx⟩
theorem common_ok {fu : Nat} (a b : List Int) (ha : a.length ≤ 12) (hn : a.Nodup) (hb : b.length ≤ 2097152) (hfu : 2097153 ≤ fu) : ∃ c, impl_common fu a b = some c ∧ decide ((c.length : Int) > 0) = meets a b := by
  unfold impl_common
  obtain ⟨z, hz⟩ := common_loop a b (by omega) hb hfu fu 0 [] (by omega) (by omega) (by simp)
  rw [show ((0 : Nat) : Int) = 0 from rfl] at hz
  simp only [hz, Option.bind_some, List.nil_append, List.drop_zero]
  have hlen : (a.filter fun x => b.any fun y => y == x).length ≤ 12 := Nat.le_trans (List.length_filter_le _ _) ha
  obtain ⟨l', h1, h2⟩ := sort_ok hfu (a.filter fun x => b.any fun y => y == x) hlen
  have hnd : l'.Nodup := h2.nodup_iff.2 (hn.filter _)
  have hl' := h2.length_eq
  rw [h1, Option.bind_some, compact_ok l' hnd (by omega) hfu]
  refine ⟨l', rfl, ?_⟩
  rw [Bool.eq_iff_iff, decide_eq_true_eq, ← filter_pos]
  omega
end AT

