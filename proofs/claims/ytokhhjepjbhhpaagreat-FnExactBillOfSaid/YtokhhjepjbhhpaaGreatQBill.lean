/- Bills as sums: a bill in order is told by its counts. -/
import Derived.Test.YtokhhjepjbhhpaaGreatP1
import Derived.Test.YtokhhjepjbhhpaaGreatAtL
set_option linter.unusedSimpArgs false
set_option linter.unusedVariables false
namespace AT
def key (e : Item) : Int := e.Kind * 8 + e.Node
def cnt : List Item → Int → Int
  | [], _ => 0
  | e :: l, k => (if key e = k then e.Count else 0) + cnt l k
/-- In order, from lo on; counts at least one. -/
def SP : Int → List Item → Prop
  | _, [] => True
  | lo, e :: l => lo ≤ key e ∧ 0 ≤ e.Node ∧ e.Node ≤ 7 ∧ 1 ≤ e.Count ∧ SP (key e + 1) l
theorem SP.mono : ∀ {l : List Item} {lo lo' : Int}, SP lo l → lo' ≤ lo → SP lo' l
  | [], _, _, _, _ => trivial
  | e :: l, lo, lo', h, h' => ⟨Int.le_trans h' h.1, h.2⟩
theorem cnt_lo : ∀ {l : List Item} {lo k : Int}, SP lo l → k < lo → cnt l k = 0
  | [], _, _, _, _ => rfl
  | e :: l, lo, k, h, hk => by
    have h1 := h.1
    unfold cnt
    rw [if_neg (by omega), cnt_lo h.2.2.2.2 (by omega)]; rfl
theorem cnt_nonneg : ∀ {l : List Item} {lo : Int} (k : Int), SP lo l → 0 ≤ cnt l k
  | [], _, _, _ => Int.le_refl _
  | e :: l, lo, k, h => by
    have h1 := h.2.2.2.1
    have := cnt_nonneg k h.2.2.2.2
    unfold cnt
    split <;> omega
theorem cnt_head {e : Item} {l : List Item} {lo : Int} (h : SP lo (e :: l)) : cnt (e :: l) (key e) = e.Count := by
  unfold cnt
  rw [if_pos rfl, cnt_lo h.2.2.2.2 (by omega)]; omega
theorem uniq : ∀ (l1 l2 : List Item) (lo : Int), SP lo l1 → SP lo l2 → (∀ k, cnt l1 k = cnt l2 k) → l1 = l2
  | [], [], _, _, _, _ => rfl
  | [], e :: l, lo, _, h2, hc => by
    have h3 := hc (key e)
    rw [cnt_head h2] at h3
    have h4 := h2.2.2.2.1
    have : cnt [] (key e) = 0 := rfl
    omega
  | e :: l, [], lo, h1, _, hc => by
    have h3 := hc (key e)
    rw [cnt_head h1] at h3
    have h4 := h1.2.2.2.1
    have : cnt [] (key e) = 0 := rfl
    omega
  | e1 :: l1, e2 :: l2, lo, h1, h2, hc => by
    have p1 := h1.2.2.2.1
    have p2 := h2.2.2.2.1
    have hk : key e1 = key e2 := by
      rcases Int.lt_trichotomy (key e1) (key e2) with h | h | h
      · have h3 := hc (key e1)
        rw [cnt_head h1, cnt_lo (l := e2 :: l2) (lo := key e2) ⟨Int.le_refl _, h2.2⟩ h] at h3
        omega
      · exact h
      · have h3 := hc (key e2)
        rw [cnt_head h2, cnt_lo (l := e1 :: l1) (lo := key e1) ⟨Int.le_refl _, h1.2⟩ h] at h3
        omega
    have hcount : e1.Count = e2.Count := by
      have h3 := hc (key e1)
      rw [cnt_head h1, hk, cnt_head h2] at h3
      exact h3
    have he : e1 = e2 := by
      obtain ⟨k1, n1, c1⟩ := e1
      obtain ⟨k2, n2, c2⟩ := e2
      have a1 := h1.2.1
      have a2 := h1.2.2.1
      have a3 := h2.2.1
      have a4 := h2.2.2.1
      simp only [key] at hk hcount a1 a2 a3 a4
      have : k1 = k2 := by omega
      have : n1 = n2 := by omega
      simp_all
    subst he
    rw [uniq l1 l2 (key e1 + 1) h1.2.2.2.2 h2.2.2.2.2 fun k => by
      have h3 := hc k
      unfold cnt at h3
      omega]
/-- One more behind. -/
theorem SP_snoc : ∀ {l : List Item} {lo : Int} {z : Item}, SP lo l → (∀ e ∈ l, key e < key z) → lo ≤ key z → 0 ≤ z.Node → z.Node ≤ 7 → 1 ≤ z.Count → SP lo (l ++ [z])
  | [], _, _, _, _, h1, h2, h3, h4 => ⟨h1, h2, h3, h4, trivial⟩
  | e :: l, lo, z, h, hk, h1, h2, h3, h4 => ⟨h.1, h.2.1, h.2.2.1, h.2.2.2.1, SP_snoc h.2.2.2.2 (fun x hx => hk x (by simp [hx])) (by have := hk e (by simp); omega) h2 h3 h4⟩
theorem cnt_snoc : ∀ (l : List Item) (z : Item) (k : Int), cnt (l ++ [z]) k = cnt l k + if key z = k then z.Count else 0
  | [], z, k => by simp [cnt]
  | e :: l, z, k => by
    show (if key e = k then e.Count else 0) + cnt (l ++ [z]) k = _
    rw [cnt_snoc l z k]
    show _ = (if key e = k then e.Count else 0) + cnt l k + _
    omega
/-- An item put where it belongs. -/
def ins (x : Item) : List Item → List Item
  | [] => [x]
  | e :: l => if key e < key x then e :: ins x l else if key e = key x then ⟨x.Kind, x.Node, x.Count + e.Count⟩ :: l else x :: e :: l
theorem SP_ins {x : Item} (hn0 : 0 ≤ x.Node) (hn : x.Node ≤ 7) (hc : 1 ≤ x.Count) : ∀ {l : List Item} {lo : Int}, SP lo l → lo ≤ key x → SP lo (ins x l)
  | [], lo, _, h => ⟨h, hn0, hn, hc, trivial⟩
  | e :: l, lo, h, hx => by
    have h4 := h.2.2.2.1
    unfold ins
    split
    · rename_i hlt
      exact ⟨h.1, h.2.1, h.2.2.1, h.2.2.2.1, SP_ins hn0 hn hc h.2.2.2.2 (by omega)⟩
    · split
      · rename_i heq
        have hk : key ⟨x.Kind, x.Node, x.Count + e.Count⟩ = key x := rfl
        exact ⟨by rw [hk]; exact hx, hn0, hn, by simp only; omega, by rw [hk, ← heq]; exact h.2.2.2.2⟩
      · exact ⟨hx, hn0, hn, hc, by omega, h.2⟩
theorem cnt_ins (x : Item) : ∀ (l : List Item) (k : Int), cnt (ins x l) k = cnt l k + if key x = k then x.Count else 0
  | [], k => by simp [ins, cnt]
  | e :: l, k => by
    unfold ins
    split
    · show (if key e = k then e.Count else 0) + cnt (ins x l) k = _
      rw [cnt_ins x l k]
      show _ = (if key e = k then e.Count else 0) + cnt l k + _
      omega
    · split
      · rename_i heq
        show (if key x = k then x.Count + e.Count else 0) + cnt l k = (if key e = k then e.Count else 0) + cnt l k + _
        rw [heq]
        split <;> omega
      · show (if key x = k then x.Count else 0) + ((if key e = k then e.Count else 0) + cnt l k) = (if key e = k then e.Count else 0) + cnt l k + _
        omega
theorem ins_len (x : Item) : ∀ (l : List Item), (ins x l).length ≤ l.length + 1
  | [] => by simp [ins]
  | e :: l => by
    unfold ins
    have := ins_len x l
    split
    · simp only [List.length_cons]; omega
    · split <;> simp only [List.length_cons] <;> omega
theorem ins_at (x : Item) : ∀ (l : List Item), ins x l = l.take (l.findIdx fun e => decide (¬ key e < key x)) ++ (match l.drop (l.findIdx fun e => decide (¬ key e < key x)) with | [] => [x] | e :: r => if key e = key x then ⟨x.Kind, x.Node, x.Count + e.Count⟩ :: r else x :: e :: r)
  | [] => rfl
  | e :: l => by
    unfold ins
    by_cases h : key e < key x
    · rw [if_pos h, ins_at x l, List.findIdx_cons]
      simp [h]
    · rw [if_neg h, List.findIdx_cons]
      simp [h]
end AT
