/- MergeBills: the program's and the reference's are one. -/
import Derived.Test.YtijgfgfolkbkoaaQTally
import Derived.Test.YtijgfgfolkbkoaaH
set_option linter.unusedSimpArgs false
set_option linter.unusedVariables false
namespace AT
theorem before_key {a b : Item} (fu : Nat) (ha0 : 0 ≤ a.Node) (ha : a.Node ≤ 7) (hb0 : 0 ≤ b.Node) (hb : b.Node ≤ 7) : spec_l19Before fu a b = some (decide (key a < key b)) := by
  rw [before_eq]
  congr 1
  rw [Bool.eq_iff_iff, itLt_iff ha0 ha hb0 hb, decide_eq_true_eq]
theorem place_loop {fu : Nat} (l : List Item) (x : Item) (hx0 : 0 ≤ x.Node) (hx : x.Node ≤ 7) (hl : ∀ e ∈ l, 0 ≤ e.Node ∧ e.Node ≤ 7) (hn : l.length ≤ 1000) : ∀ (fk i : Nat), i ≤ l.length → l.length - i < fk →
    spec_l19Add_L1 fu l x fk i = some ((i + (l.drop i).findIdx (fun e => decide (¬ key e < key x)) : Nat) : Int) := by
  intro fk
  induction fk with
  | zero => intro i _ h; omega
  | succ fk ih =>
    intro i hi hk
    rw [spec_l19Add_L1]
    by_cases h : i < l.length
    · have hd : l.drop i = l[i] :: l.drop (i + 1) := (List.getElem_cons_drop h).symm
      have he := hl l[i] (List.getElem_mem h)
      have hc : ((i : Int) < l.length) = True := by simp; omega
      have hi1 : w64 ((i : Int) + 1) = ((i + 1 : Nat) : Int) := w64_inc h (by omega)
      rw [hd, List.findIdx_cons]
      simp only [hc, decide_true, if_true, idx_in h, Option.bind_some, hi1, before_key fu he.1 he.2 hx0 hx]
      clear hi1
      generalize key l[i] = kl
      generalize hkx : key x = kx at ih ⊢
      by_cases hp : kl < kx
      · simp only [hp, decide_true, if_true, not_true_eq_false, decide_false, cond_false]
        rw [ih (i + 1) h (by omega)]
        congr 2; omega
      · simp [hp]
    · obtain rfl : i = l.length := by omega
      rw [if_neg (by simp), List.drop_length]
      simp
theorem add_ins {fu : Nat} (hfu : 2097153 ≤ fu) (l : List Item) (x : Item) (hx : itOk x = true) (hl : ∀ e ∈ l, 0 ≤ e.Node ∧ e.Node ≤ 7) (hc : ∀ e ∈ l, 0 ≤ e.Count ∧ e.Count ≤ 1000000) (hn : l.length ≤ 1000) : spec_l19Add fu l x = some (ins x l) := by
  have hx2 := itOk_iff.1 hx
  unfold spec_l19Add
  have h0 : (x.Count == 0) = false := by simp; omega
  have hz := place_loop (fu := fu) l x hx2.2.1.1 hx2.2.1.2 hl hn fu 0 (by omega) (by omega)
  rw [Int.ofNat_zero, List.drop_zero, Nat.zero_add] at hz
  rw [ins_at]
  have hzl : (l.findIdx fun e => decide (¬ key e < key x)) ≤ l.length := List.findIdx_le_length
  have hnot : ∀ (h : (l.findIdx fun e => decide (¬ key e < key x)) < l.length), ¬ key l[l.findIdx fun e => decide (¬ key e < key x)] < key x := fun h => by
    have := List.findIdx_getElem (w := h)
    simpa using this
  generalize (l.findIdx fun e => decide (¬ key e < key x)) = z at hz hzl hnot
  have hs : sub l 0 (z : Int) = some (l.take z) := by unfold sub; rw [if_pos (by omega)]; simp
  have hs2 : sub l (z : Int) (l.length : Int) = some (l.drop z) := by unfold sub; rw [if_pos (by omega)]; simp
  have ha : app ([] : List Item) (l.take z) = some (l.take z) := by unfold app; rw [if_pos (by simp; omega)]; rfl
  have hb : ∀ (y : Item), app (l.take z) [y] = some (l.take z ++ [y]) := fun y => by unfold app; rw [if_pos (by simp; omega)]
  have hd : ∀ (y : Item) (r : List Item), r.length ≤ 1000 → app (l.take z ++ [y]) r = some (l.take z ++ [y] ++ r) := fun y r hr => by unfold app; rw [if_pos (by simp; omega)]
  simp only [h0, Bool.false_eq_true, if_false, hz, Option.bind_some, hs, hs2, ha, hb]
  by_cases h : z < l.length
  · have hzz : ((z : Int) < l.length) = True := by simp; omega
    have hdr : l.drop z = l[z] :: l.drop (z + 1) := (List.getElem_cons_drop h).symm
    have he := hl l[z] (List.getElem_mem h)
    have hcc := hc l[z] (List.getElem_mem h)
    have hne := hnot h
    have hn64 : (l.length : Int) ≤ 9223372036854775807 := by omega
    have hs3 : sub l ((z + 1 : Nat) : Int) (l.length : Int) = some (l.drop (z + 1)) := by unfold sub; rw [if_pos (by omega)]; simp
    have hq1 : -9223372036854775808 ≤ x.Count + l[z].Count ∧ x.Count + l[z].Count ≤ 9223372036854775807 := by omega
    have hw : w64 (x.Count + l[z].Count) = x.Count + l[z].Count := w64_in hq1.1 hq1.2
    have hi1 : w64 ((z : Int) + 1) = ((z + 1 : Nat) : Int) := w64_inc h hn64
    simp only [hzz, decide_true, if_true, idx_in h, Option.bind_some, before_key fu hx2.2.1.1 hx2.2.1.2 he.1 he.2, hi1, hs3, hw, hb]
    clear hi1 hw hd hb hs hs2 hs3
    have hd : ∀ (y : Item) (r : List Item), r.length ≤ 1000 → app (l.take z ++ [y]) r = some (l.take z ++ [y] ++ r) := fun y r hr => by unfold app; rw [if_pos (by simp; omega)]
    rw [hdr]
    by_cases hk : key l[z] = key x
    · simp only [hk, Int.lt_irrefl, decide_false, Bool.not_false, if_true]
      rw [hd _ _ (by simp; omega)]
      simp
    · have : key x < key l[z] := by
        rcases Int.lt_trichotomy (key l[z]) (key x) with q | q | q
        · exact absurd q hne
        · exact absurd q hk
        · exact q
      simp only [this, hk, decide_true, Bool.not_true, Bool.false_eq_true, if_false]
      rw [hd _ _ (by simp; omega)]
      simp
  · have hzz : ((z : Int) < l.length) = False := by simp; omega
    have hdr : l.drop z = [] := List.drop_of_length_le (by omega)
    simp only [hzz, decide_false, Bool.false_eq_true, if_false]
    rw [hdr, hd _ _ (by simp)]
    simp
theorem merge_loop {fu : Nat} (hfu : 2097153 ≤ fu) (b : List Item) (hb : ∀ x ∈ b, itOk x = true) (hn : b.length ≤ 32) : ∀ (fk i : Nat) (o : List Item), i ≤ b.length → b.length - i < fk → SP 8 o → (∀ e ∈ o, e.Count ≤ 1000 + 1000 * (i : Int)) → o.length ≤ 32 + i →
    ∃ o', spec_MergeBills_L1 fu b fk o i = some (o', (b.length : Int)) ∧ SP 8 o' ∧ o'.length ≤ 32 + b.length ∧ ∀ k, cnt o' k = cnt o k + cnt (b.drop i) k := by
  intro fk
  induction fk with
  | zero => intro i _ _ h; omega
  | succ fk ih =>
    intro i o hi hk hs hc hl
    rw [spec_MergeBills_L1]
    by_cases h : i < b.length
    · have hd : b.drop i = b[i] :: b.drop (i + 1) := (List.getElem_cons_drop h).symm
      have hx := hb b[i] (List.getElem_mem h)
      have hcc : ((i : Int) < b.length) = True := by simp; omega
      have hi1 : w64 ((i : Int) + 1) = ((i + 1 : Nat) : Int) := w64_inc h (by omega)
      simp only [hcc, decide_true, if_true, idx_in h, Option.bind_some, hi1]
      clear hi1
      rw [hd]
      generalize b[i] = x at hx hd
      have hx2 := itOk_iff.1 hx
      rw [add_ins hfu o x hx (SP_node hs) (fun e he => ⟨by have := SP_count hs e he; omega, by have := hc e he; omega⟩) (by omega)]
      simp only [Option.bind_some]
      have hlen := ins_len x o
      obtain ⟨o', g1, g2, g3, g4⟩ := ih (i + 1) (ins x o) h (by omega) (SP_ins hx2.2.1.1 hx2.2.1.2 hx2.2.2.1 hs (by unfold key; omega)) (fun e he => by
        have := ins_count x (m := 1000 + 1000 * (i : Int)) o hc hx2.2.2.2 (by omega) e he
        omega) (by omega)
      refine ⟨o', g1, g2, g3, fun k => ?_⟩
      rw [g4 k, cnt_ins]
      show _ = cnt o k + ((if key x = k then x.Count else 0) + cnt (b.drop (i + 1)) k)
      omega
    · obtain rfl : i = b.length := by omega
      rw [if_neg (by simp), List.drop_length]
      exact ⟨o, rfl, hs, hl, fun k => by simp [cnt]⟩
where
  SP_node : ∀ {l : List Item} {lo : Int}, SP lo l → ∀ e ∈ l, 0 ≤ e.Node ∧ e.Node ≤ 7 := by
    intro l
    induction l with
    | nil => intro lo _ e he; cases he
    | cons x l ih =>
      intro lo h e he
      rcases List.mem_cons.1 he with rfl | he
      · exact ⟨h.2.1, h.2.2.1⟩
      · exact ih h.2.2.2.2 e he
  SP_count : ∀ {l : List Item} {lo : Int}, SP lo l → ∀ e ∈ l, 1 ≤ e.Count := by
    intro l
    induction l with
    | nil => intro lo _ e he; cases he
    | cons x l ih =>
      intro lo h e he
      rcases List.mem_cons.1 he with rfl | he
      · exact h.2.2.2.1
      · exact ih h.2.2.2.2 e he
  ins_count (x : Item) {m : Int} : ∀ (l : List Item), (∀ e ∈ l, e.Count ≤ m) → x.Count ≤ 1000 → 1000 ≤ m → ∀ e ∈ ins x l, e.Count ≤ m + 1000 := by
    intro l
    induction l with
    | nil =>
      intro _ hx hm e he
      unfold ins at he
      rw [List.mem_singleton] at he; subst he; omega
    | cons y l ih =>
      intro h hx hm e he
      have hy := h y (by simp)
      unfold ins at he
      split at he
      · rcases List.mem_cons.1 he with rfl | he
        · omega
        · exact ih (fun z hz => h z (by simp [hz])) hx hm e he
      · split at he
        · rcases List.mem_cons.1 he with rfl | he
          · simp only; omega
          · have := h e (by simp [he]); omega
        · rcases List.mem_cons.1 he with rfl | he
          · omega
          · have := h e he; omega
theorem main_FnExactMergeBills {fu : Nat} (hfu : 2097153 ≤ fu) {x0 x1 : List Item} (_ : ok_ItemS x0) (_ : ok_ItemS x1) (b0 : B_ItemS x0) (b1 : B_ItemS x1) : ∃ w, spec_MergeBills fu x0 x1 = some w ∧ impl_MergeBills fu x0 x1 = some w ∧ B_ItemS w.1 := by
  have l0 := b0.1
  have l1 := b1.1
  have nil : B_ItemS [] := ⟨by simp, by simp⟩
  unfold spec_MergeBills impl_MergeBills
  rw [l19Bill_eq x0 (by omega) l0, l19Bill_eq x1 (by omega) l1, isBill_eq x0 (by omega) l0, isBill_eq x1 (by omega) l1]
  simp only [Option.bind_some]
  cases h0 : billOk x0
  · exact ⟨_, rfl, rfl, nil⟩
  cases h1 : billOk x1
  · exact ⟨_, rfl, rfl, nil⟩
  obtain ⟨o0, s0, n0⟩ := billOk_iff.1 h0
  obtain ⟨o1, s1, n1⟩ := billOk_iff.1 h1
  have ha : app ([] : List Item) x0 = some x0 := by unfold app; rw [if_pos (by simp; omega)]; rfl
  obtain ⟨m, m1, m2, m3, m4⟩ := merge_loop hfu x1 o1 n1 fu 0 x0 (by omega) (by omega) s0 (fun e he => by have := itOk_iff.1 (o0 e he); omega) (by omega)
  rw [Int.ofNat_zero] at m1
  obtain ⟨t1, a1, a2⟩ := add_eq hfu x0 1 (.inl rfl) o0 n0 _ (fun k _ _ => by rw [zero_tv]; omega)
  obtain ⟨t2, a3, a4⟩ := add_eq hfu x1 1 (.inl rfl) o1 n1 t1 (fun k k0 k4 => by
    rw [a2 k k0 k4, zero_tv]
    have := cnt_le k o0
    omega)
  obtain ⟨o, a5, a6⟩ := bill_eq hfu t2
  have hf : ∀ k : Int, 0 ≤ k → k < 40 → tv t2 k = cnt x0 k + cnt x1 k := fun k k0 k4 => by
    rw [a4 k k0 k4, a2 k k0 k4, zero_tv]; omega
  have he : o = m := by
    refine uniq _ _ 8 a5.sp m2 fun k => ?_
    rw [a5.c k, m4 k, List.drop_zero]
    have c0 := (cnt_le k o0).1
    have c1 := (cnt_le k o1).1
    by_cases hk : 8 ≤ k ∧ k < 40
    · rw [hf k (by omega) hk.2]
      by_cases hp : 0 < cnt x0 k + cnt x1 k
      · rw [if_pos ⟨hk.1, hk.2, hp⟩]
      · rw [if_neg (fun h => hp h.2.2)]; omega
    · have hz : cnt x0 k = 0 ∧ cnt x1 k = 0 := by
        by_cases h8 : 8 ≤ k
        · exact ⟨cnt_hi o0 (by omega), cnt_hi o1 (by omega)⟩
        · exact ⟨cnt_lo s0 (by omega), cnt_lo s1 (by omega)⟩
      rw [if_neg (fun h => hk ⟨h.1, h.2.1⟩)]; omega
  subst he
  have hlen := a5.len
  simp only [Bool.not_true, Bool.false_eq_true, if_false, Option.bind_some, ha, m1, a1, a3, a6]
  rw [l19Bill_eq o (by omega) (by omega)]
  simp only [Option.bind_some]
  cases billOk o
  · exact ⟨_, rfl, rfl, nil⟩
  · exact ⟨_, rfl, rfl, by simp only; omega, fun _ _ => trivial⟩
end AT
