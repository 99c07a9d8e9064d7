/- The tally, plainly: it sums counts by place, and tells them in order. -/
import Derived.Test.YtokhhjepjbhhpaaGreatQBillOk
set_option linter.unusedSimpArgs false
set_option linter.unusedVariables false
namespace AT
def tv {n : Nat} (t : IA n) (k : Int) : Int := (t.l[k.toNat]?).getD 0
theorem tv_get {n : Nat} (t : IA n) {k : Nat} (h : k < n) : t.get k = some (tv t (k : Int)) := by
  unfold IA.get tv
  have : k < t.l.length := by rw [t.h]; exact h
  simp [List.getElem?_eq_getElem this]
theorem tv_put {n : Nat} (t : IA n) {k : Nat} (h : k < n) (v : Int) : ∃ t', t.put k v = some t' ∧ ∀ j : Int, 0 ≤ j → tv t' j = if j = (k : Int) then v else tv t j := by
  unfold IA.put
  rw [if_pos h]
  refine ⟨_, rfl, fun j hj => ?_⟩
  have hk : k < t.l.length := by rw [t.h]; exact h
  unfold tv
  simp only [List.getElem?_set]
  by_cases e : j = (k : Int)
  · subst e; simp [hk]
  · have : k ≠ j.toNat := by omega
    simp [e, this]
theorem chk_in {i : Int} {n : Nat} (h0 : 0 ≤ i) (h : i < n) : chk i n = some i.toNat := by unfold chk; rw [if_pos ⟨h0, h⟩]
/-- What has been told of the tally so far: the sums above zero, from place 8 to place m. -/
structure Told (t : IA 40) (m : Int) (o : List Item) : Prop where
  sp : SP 8 o
  lt : ∀ e ∈ o, key e < m
  len : (o.length : Int) ≤ m - 8
  c : ∀ k, cnt o k = if 8 ≤ k ∧ k < m ∧ 0 < tv t k then tv t k else 0
theorem row_loop {fu : Nat} (t : IA 40) (kind : Int) (h1 : 1 ≤ kind) (h4 : kind ≤ 4) (z : IA 8) (hz : ∀ j : Nat, j < 8 → z.l[j]? = some (tv t (kind * 8 + j))) : ∀ (fk i : Nat) (o : List Item), i ≤ 8 → 8 - i < fk → Told t (kind * 8 + i) o →
    ∃ o', impl_tally_bill_L2 fu z kind fk o i = some (o', 8) ∧ Told t (kind * 8 + 8) o' := by
  intro fk
  induction fk with
  | zero => intro i _ _ h; omega
  | succ fk ih =>
    intro i o hi hk ht
    rw [impl_tally_bill_L2]
    by_cases h : i < 8
    · have hc : ((i : Int) < 8) = True := by simp; omega
      have hidx : idx z.l (i : Int) = some (tv t (kind * 8 + i)) := by rw [idx_nat]; exact hz i h
      have e : w64 ((i : Int) + 1) = ((i + 1 : Nat) : Int) := by rw [w64_in (by omega) (by omega)]; omega
      have hm : kind * 8 + ((i + 1 : Nat) : Int) = kind * 8 + (i : Int) + 1 := by omega
      simp only [hc, decide_true, if_true, hidx, Option.bind_some, e]
      clear e
      by_cases hp : tv t (kind * 8 + i) > 0
      · have ha : app o [(⟨kind, (i : Int), tv t (kind * 8 + i)⟩ : Item)] = some (o ++ [⟨kind, (i : Int), tv t (kind * 8 + i)⟩]) := by
          have := ht.len
          unfold app; rw [if_pos (by simp; omega)]
        simp only [hp, decide_true, if_true, ha, Option.bind_some]
        refine ih (i + 1) _ h (by omega) ⟨SP_snoc ht.sp (fun x hx => ?_) ?_ ?_ ?_ ?_, fun x hx => ?_, ?_, fun k => ?_⟩
        · exact ht.lt x hx
        · show 8 ≤ kind * 8 + (i : Int); omega
        · show (0 : Int) ≤ i; omega
        · show (i : Int) ≤ 7; omega
        · show 1 ≤ tv t (kind * 8 + i); omega
        · rw [hm]
          rcases List.mem_append.1 hx with hx | hx
          · have := ht.lt x hx; omega
          · rw [List.mem_singleton] at hx; subst hx
            show kind * 8 + (i : Int) < kind * 8 + (i : Int) + 1; omega
        · have := ht.len
          rw [hm, List.length_append]; simp; omega
        · rw [cnt_snoc, ht.c k, hm]
          have hkz : key ⟨kind, (i : Int), tv t (kind * 8 + i)⟩ = kind * 8 + (i : Int) := rfl
          rw [hkz]
          by_cases ek : kind * 8 + (i : Int) = k
          · subst ek
            rw [if_neg (by omega), if_pos rfl, if_pos ⟨by omega, by omega, hp⟩]; simp
          · rw [if_neg ek, Int.add_zero]
            by_cases hq : 8 ≤ k ∧ k < kind * 8 + (i : Int) ∧ 0 < tv t k
            · rw [if_pos hq, if_pos ⟨hq.1, by omega, hq.2.2⟩]
            · rw [if_neg hq, if_neg (fun h3 => hq ⟨h3.1, by omega, h3.2.2⟩)]
      · simp only [hp, decide_false, Bool.false_eq_true, if_false]
        refine ih (i + 1) o h (by omega) ⟨ht.sp, fun x hx => ?_, ?_, fun k => ?_⟩
        · have := ht.lt x hx; omega
        · have := ht.len; omega
        · rw [ht.c k, hm]
          by_cases hq : 8 ≤ k ∧ k < kind * 8 + (i : Int) ∧ 0 < tv t k
          · rw [if_pos hq, if_pos ⟨hq.1, by omega, hq.2.2⟩]
          · rw [if_neg hq, if_neg (fun h3 => by
              by_cases ek : k = kind * 8 + (i : Int)
              · subst ek; exact hp h3.2.2
              · exact hq ⟨h3.1, by omega, h3.2.2⟩)]
    · obtain rfl : i = 8 := by omega
      rw [if_neg (by decide)]
      exact ⟨o, rfl, ht⟩
theorem kinds_loop {fu : Nat} (hfu : 2097153 ≤ fu) (t : IA 40) : ∀ (fk n : Nat) (o : List Item), 1 ≤ n → n ≤ 5 → 5 - n < fk → Told t ((n : Int) * 8) o → ∃ o', impl_tally_bill_L1 fu t fk o n = some (o', 5) ∧ Told t 40 o' := by
  intro fk
  induction fk with
  | zero => intro n _ _ _ h; omega
  | succ fk ih =>
    intro n o h1 h5 hk ht
    rw [impl_tally_bill_L1]
    by_cases h : n ≤ 4
    · have hc : ((n : Int) ≤ 4) = True := by simp; omega
      have e : w64 ((n : Int) + 1) = ((n + 1 : Nat) : Int) := by rw [w64_in (by omega) (by omega)]; omega
      have hp : ∃ z, t.part ((n : Int).toNat * 8) 8 = some z ∧ ∀ j : Nat, j < 8 → z.l[j]? = some (tv t ((n : Int) * 8 + j)) := by
        unfold IA.part
        rw [dif_pos (by omega)]
        refine ⟨_, rfl, fun j hj => ?_⟩
        have hlt : n * 8 + j < t.l.length := by rw [t.h]; omega
        simp only [Int.toNat_natCast]
        rw [List.getElem?_take_of_lt hj, List.getElem?_drop]
        unfold tv
        rw [show ((n : Int) * 8 + (j : Int)).toNat = n * 8 + j by omega, List.getElem?_eq_getElem hlt]; rfl
      obtain ⟨z, hz1, hz2⟩ := hp
      obtain ⟨o', g1, g2⟩ := row_loop (fu := fu) t (n : Int) (by omega) (by omega) z hz2 fu 0 o (by omega) (by omega) (by simpa using ht)
      rw [Int.ofNat_zero] at g1
      simp only [hc, decide_true, if_true, chk_in (show 0 ≤ (n : Int) by omega) (show (n : Int) < ((5 : Nat) : Int) by omega), Option.bind_some, hz1, g1, e]
      exact ih (n + 1) o' (by omega) (by omega) (by omega) (by rw [show ((n + 1 : Nat) : Int) * 8 = (n : Int) * 8 + 8 by omega]; exact g2)
    · obtain rfl : n = 5 := by omega
      rw [if_neg (by decide)]
      exact ⟨o, rfl, by simpa using ht⟩
/-- The bill of a tally: the sums above zero, in order, if that is a bill. -/
theorem bill_eq {fu : Nat} (hfu : 2097153 ≤ fu) (t : IA 40) : ∃ o, Told t 40 o ∧ impl_tally_bill fu t = some (if billOk o then (o, true) else ([], false)) := by
  unfold impl_tally_bill
  obtain ⟨o, g1, g2⟩ := kinds_loop hfu t fu 1 [] (by omega) (by omega) (by omega) ⟨trivial, fun e he => by simp at he, by simp, fun k => by rw [if_neg (by omega)]; rfl⟩
  rw [show ((1 : Nat) : Int) = 1 from rfl] at g1
  have hl := g2.len
  refine ⟨o, g2, ?_⟩
  rw [g1]
  simp only [Option.bind_some]
  rw [isBill_eq o (by omega) (by omega)]
  cases billOk o <;> rfl
theorem zero_tv (k : Int) : tv (⟨[0, 0, 0, 0, 0, 0, 0, 0, 0, 0, 0, 0, 0, 0, 0, 0, 0, 0, 0, 0, 0, 0, 0, 0, 0, 0, 0, 0, 0, 0, 0, 0, 0, 0, 0, 0, 0, 0, 0, 0], rfl⟩ : IA 40) k = 0 := by
  unfold tv
  show (([0, 0, 0, 0, 0, 0, 0, 0, 0, 0, 0, 0, 0, 0, 0, 0, 0, 0, 0, 0, 0, 0, 0, 0, 0, 0, 0, 0, 0, 0, 0, 0, 0, 0, 0, 0, 0, 0, 0, 0] : List Int)[k.toNat]?).getD 0 = 0
  rw [show ([0, 0, 0, 0, 0, 0, 0, 0, 0, 0, 0, 0, 0, 0, 0, 0, 0, 0, 0, 0, 0, 0, 0, 0, 0, 0, 0, 0, 0, 0, 0, 0, 0, 0, 0, 0, 0, 0, 0, 0] : List Int) = List.replicate 40 0 from rfl, List.getElem?_replicate]
  split <;> rfl
end AT
