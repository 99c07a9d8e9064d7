/- MissingItems: the program's and the reference's are one. -/
import Derived.Test.YtijgfgfolkbkoaaQTally
import Derived.Test.YtijgfgfolkbkoaaH
set_option linter.unusedSimpArgs false
set_option linter.unusedVariables false
namespace AT
/-- What is left of an item. -/
def leftOf (s : List Item) (e : Item) : Option Item := if 0 < e.Count - cnt s (key e) then some ⟨e.Kind, e.Node, e.Count - cnt s (key e)⟩ else none
theorem left_key {s : List Item} {e x : Item} (h : leftOf s e = some x) : key x = key e ∧ x.Kind = e.Kind ∧ x.Node = e.Node ∧ x.Count = e.Count - cnt s (key e) ∧ 0 < e.Count - cnt s (key e) := by
  unfold leftOf at h
  split at h
  · rename_i hp
    injection h with h; subst h
    exact ⟨rfl, rfl, rfl, rfl, hp⟩
  · cases h
theorem SP_left (s : List Item) : ∀ {l : List Item} {lo : Int}, SP lo l → SP lo (l.filterMap (leftOf s))
  | [], _, _ => trivial
  | e :: l, lo, h => by
    rw [List.filterMap_cons]
    cases hl : leftOf s e with
    | none => exact (SP_left s h.2.2.2.2).mono (by have := h.1; omega)
    | some x =>
      obtain ⟨p1, p2, p3, p4, p5⟩ := left_key hl
      exact ⟨by rw [p1]; exact h.1, by rw [p3]; exact h.2.1, by rw [p3]; exact h.2.2.1, by omega, by rw [p1]; exact SP_left s h.2.2.2.2⟩
theorem cnt_left (s : List Item) : ∀ {l : List Item} {lo : Int} (k : Int), SP lo l → cnt (l.filterMap (leftOf s)) k = if 0 < cnt l k ∧ 0 < cnt l k - cnt s k then cnt l k - cnt s k else 0
  | [], _, k, _ => by simp [cnt]
  | e :: l, lo, k, h => by
    rw [List.filterMap_cons, show cnt (e :: l) k = (if key e = k then e.Count else 0) + cnt l k from rfl]
    have ih := cnt_left s k h.2.2.2.2
    by_cases ek : key e = k
    · have h0 : cnt l k = 0 := cnt_lo h.2.2.2.2 (by omega)
      have h4 := h.2.2.2.1
      have hf : cnt (l.filterMap (leftOf s)) k = 0 := cnt_lo (SP_left s h.2.2.2.2) (by omega)
      rw [if_pos ek, h0, Int.add_zero]
      cases hl : leftOf s e with
      | none =>
        unfold leftOf at hl
        split at hl
        · cases hl
        · rename_i hp
          rw [ek] at hp
          rw [if_neg (fun h => hp h.2)]; exact hf
      | some x =>
        obtain ⟨p1, p2, p3, p4, p5⟩ := left_key hl
        rw [ek] at p4 p5
        show (if key x = k then x.Count else 0) + cnt (l.filterMap (leftOf s)) k = _
        rw [if_pos (by rw [p1]; exact ek), hf, if_pos ⟨by omega, p5⟩, p4]; omega
    · rw [if_neg ek, Int.zero_add, ← ih]
      cases hl : leftOf s e with
      | none => rfl
      | some x =>
        obtain ⟨p1, -⟩ := left_key hl
        show (if key x = k then x.Count else 0) + cnt (l.filterMap (leftOf s)) k = _
        rw [if_neg (by rw [p1]; exact ek), Int.zero_add]
theorem left_ok (s : List Item) (hs : ∀ k, 0 ≤ cnt s k) {l : List Item} (hl : ∀ e ∈ l, itOk e = true) : ∀ e ∈ l.filterMap (leftOf s), itOk e = true := by
  intro x hx
  obtain ⟨e, he, hxe⟩ := List.mem_filterMap.1 hx
  obtain ⟨p1, p2, p3, p4, p5⟩ := left_key hxe
  have h := itOk_iff.1 (hl e he)
  have := hs (key e)
  exact itOk_iff.2 ⟨by rw [p2]; exact h.1, by rw [p3]; exact h.2.1, by omega, by omega⟩
/-- The reference's inner loop: what of one item is in stock. -/
theorem stock_loop {fu : Nat} (s : List Item) (e : Item) (he : itOk e = true) (hs : ∀ x ∈ s, itOk x = true) (hn : s.length ≤ 32) : ∀ (fk i : Nat) (m : Int), i ≤ s.length → s.length - i < fk → -1000000 + 1000 * (s.length - i : Int) ≤ m → m ≤ 1000 →
    spec_MissingItems_L2 fu s e fk i m = some ((s.length : Int), m - cnt (s.drop i) (key e)) := by
  intro fk
  induction fk with
  | zero => intro i _ _ h; omega
  | succ fk ih =>
    intro i m hi hk hm hm2
    rw [spec_MissingItems_L2]
    by_cases h : i < s.length
    · have hd : s.drop i = s[i] :: s.drop (i + 1) := (List.getElem_cons_drop h).symm
      have hx := itOk_iff.1 (hs s[i] (List.getElem_mem h))
      have h2 := itOk_iff.1 he
      rw [hd]
      have hc : ((i : Int) < s.length) = True := by simp; omega
      simp only [hc, decide_true, if_true, idx_in h, Option.bind_some]
      generalize s[i] = x at hx hd
      rw [show cnt (x :: s.drop (i + 1)) (key e) = (if key x = key e then x.Count else 0) + cnt (s.drop (i + 1)) (key e) from rfl]
      have hkey : key x = key e ↔ x.Kind = e.Kind ∧ x.Node = e.Node := by unfold key; omega
      have hw : w64 (m - x.Count) = m - x.Count := w64_in (by omega) (by omega)
      have hi1 : w64 ((i : Int) + 1) = ((i + 1 : Nat) : Int) := w64_inc h (by omega)
      simp only [hw, hi1]
      clear hw hi1
      by_cases k1 : x.Kind = e.Kind
      · by_cases k2 : x.Node = e.Node
        · rw [if_pos (by simpa using k1), if_pos (by simpa using k2), if_pos (hkey.2 ⟨k1, k2⟩), ih (i + 1) _ h (by omega) (by omega) (by omega)]
          congr 2; omega
        · rw [if_pos (by simpa using k1), if_neg (by simpa using k2), if_neg (fun hh => k2 (hkey.1 hh).2), ih (i + 1) _ h (by omega) (by omega) (by omega), Int.zero_add]
      · rw [if_neg (by simpa using k1), if_neg (fun hh => k1 (hkey.1 hh).1), ih (i + 1) _ h (by omega) (by omega) (by omega), Int.zero_add]
    · obtain rfl : i = s.length := by omega
      rw [if_neg (by simp), List.drop_length]
      simp [cnt]
theorem need_loop {fu : Nat} (hfu : 2097153 ≤ fu) (l s : List Item) (hl : ∀ x ∈ l, itOk x = true) (hs : ∀ x ∈ s, itOk x = true) (hn : l.length ≤ 32) (hn2 : s.length ≤ 32) : ∀ (fk i : Nat) (o : List Item), o.length ≤ i → i ≤ l.length → l.length - i < fk →
    spec_MissingItems_L1 fu l s fk o i = some (o ++ (l.drop i).filterMap (leftOf s), (l.length : Int)) := by
  intro fk
  induction fk with
  | zero => intro i _ _ _ h; omega
  | succ fk ih =>
    intro i o ho hi hk
    rw [spec_MissingItems_L1]
    by_cases h : i < l.length
    · have hd : l.drop i = l[i] :: l.drop (i + 1) := (List.getElem_cons_drop h).symm
      have hx := hl l[i] (List.getElem_mem h)
      rw [hd, List.filterMap_cons]
      have hc : ((i : Int) < l.length) = True := by simp; omega
      simp only [hc, decide_true, if_true, idx_in h, Option.bind_some]
      generalize l[i] = x at hx hd
      have hx2 := itOk_iff.1 hx
      have hst := stock_loop (fu := fu) s x hx hs hn2 fu 0 x.Count (by omega) (by omega) (by omega) (by omega)
      rw [Int.ofNat_zero, List.drop_zero] at hst
      have ha : ∀ z : Item, app o [z] = some (o ++ [z]) := fun z => by unfold app; rw [if_pos (by simp; omega)]
      have hi1 : w64 ((i : Int) + 1) = ((i + 1 : Nat) : Int) := w64_inc h (by omega)
      simp only [hst, Option.bind_some, ha, hi1]
      clear hi1
      unfold leftOf
      by_cases hp : 0 < x.Count - cnt s (key x)
      · have hp' : x.Count - cnt s (key x) > 0 := hp
        simp only [hp, hp', decide_true, if_true]
        rw [ih (i + 1) _ (by simp; omega) h (by omega), List.append_assoc]; rfl
      · have hp' : ¬ x.Count - cnt s (key x) > 0 := hp
        simp only [hp, hp', decide_false, Bool.false_eq_true, if_false]
        rw [ih (i + 1) _ (by omega) h (by omega)]; rfl
    · obtain rfl : i = l.length := by omega
      rw [if_neg (by simp), List.drop_length]
      simp
theorem main_FnExactMissingItems {fu : Nat} (hfu : 2097153 ≤ fu) {x0 x1 : List Item} (_ : ok_ItemS x0) (_ : ok_ItemS x1) (b0 : B_ItemS x0) (b1 : B_ItemS x1) : ∃ w, spec_MissingItems fu x0 x1 = some w ∧ impl_MissingItems fu x0 x1 = some w ∧ B_ItemS w.1 := by
  have l0 := b0.1
  have l1 := b1.1
  have nil : B_ItemS [] := ⟨by simp, by simp⟩
  unfold spec_MissingItems impl_MissingItems
  rw [l19Bill_eq x0 (by omega) l0, l19Bill_eq x1 (by omega) l1, isBill_eq x0 (by omega) l0, isBill_eq x1 (by omega) l1]
  simp only [Option.bind_some]
  cases h0 : billOk x0
  · exact ⟨_, rfl, rfl, nil⟩
  cases h1 : billOk x1
  · exact ⟨_, rfl, rfl, nil⟩
  obtain ⟨o0, s0, n0⟩ := billOk_iff.1 h0
  obtain ⟨o1, s1, n1⟩ := billOk_iff.1 h1
  have hsp := need_loop hfu x0 x1 o0 o1 n0 n1 fu 0 [] (by simp) (by omega) (by omega)
  rw [Int.ofNat_zero, List.drop_zero, List.nil_append] at hsp
  obtain ⟨t1, a1, a2⟩ := add_eq hfu x0 1 (.inl rfl) o0 n0 _ (fun k _ _ => by rw [zero_tv]; omega)
  obtain ⟨t2, a3, a4⟩ := add_eq hfu x1 (-1) (.inr rfl) o1 n1 t1 (fun k k0 k4 => by
    rw [a2 k k0 k4, zero_tv]
    have := cnt_le k o0
    omega)
  obtain ⟨o, a5, a6⟩ := bill_eq hfu t2
  have hf : ∀ k : Int, 0 ≤ k → k < 40 → tv t2 k = cnt x0 k - cnt x1 k := fun k k0 k4 => by
    rw [a4 k k0 k4, a2 k k0 k4, zero_tv]; omega
  have hcnn : ∀ k, 0 ≤ cnt x1 k := fun k => (cnt_le k o1).1
  have he : o = x0.filterMap (leftOf x1) := by
    refine uniq _ _ 8 a5.sp (SP_left x1 s0) fun k => ?_
    rw [a5.c k, cnt_left x1 k s0]
    by_cases hk : 8 ≤ k ∧ k < 40
    · rw [hf k (by omega) hk.2]
      have := hcnn k
      by_cases hp : 0 < cnt x0 k - cnt x1 k
      · rw [if_pos ⟨hk.1, hk.2, hp⟩, if_pos ⟨by omega, hp⟩]
      · rw [if_neg (fun h => hp h.2.2), if_neg (fun h => hp h.2)]
    · have hz : cnt x0 k = 0 := by
        by_cases h8 : 8 ≤ k
        · exact cnt_hi o0 (by omega)
        · exact cnt_lo s0 (by omega)
      rw [if_neg (fun h => hk ⟨h.1, h.2.1⟩), if_neg (fun h => by omega)]
  have hb : billOk o = true := by
    refine billOk_iff.2 ⟨?_, a5.sp, ?_⟩
    · rw [he]; exact left_ok x1 hcnn o0
    · have := a5.len; omega
  rw [hb] at a6
  have hlen := a5.len
  simp only [Bool.not_true, Bool.false_eq_true, if_false, Option.bind_some, hsp, a1, a3, a6, if_true]
  rw [he]
  rw [he] at hlen
  exact ⟨_, rfl, rfl, by simp only; omega, fun _ _ => trivial⟩
end AT
