/- The draws' cursor, plainly: what it yields lies where it should. -/
import Derived.Test.YtmokfdffnijbbaaOk
import Derived.Test.YtmokfdffnijbbaaAtL
set_option linter.unusedSimpArgs false
namespace AT
structure Cur (c : L1CurP) (k : Int) : Prop where
  by_ : ∀ e ∈ c.code, 0 ≤ e.n ∧ e.n ≤ 255
  len : c.code.length ≤ 65536
  lo : 0 ≤ c.at_
  hi : c.at_ ≤ k
theorem and255 (q : Int) : 0 ≤ andu64 q 255 ∧ andu64 q 255 ≤ 255 := by
  unfold andu64
  have h : (BitVec.ofInt 64 q &&& BitVec.ofInt 64 255).toNat ≤ 255 := by
    rw [BitVec.toNat_and]
    exact Nat.le_trans Nat.and_le_right (by decide)
  unfold wu64
  omega
theorem next_ok {fu : Nat} {c : L1CurP} {k : Int} (hc : Cur c k) (hk : k ≤ 4611686018427387904) : ∃ r c', spec_l1Cur_next fu c = some (r, c') ∧ 0 ≤ r ∧ r ≤ 255 ∧ Cur c' (k + 1) := by
  have h0 := hc.lo
  have h1 := hc.hi
  have hl := hc.len
  have e1 : w64 (c.at_ + 1) = c.at_ + 1 := w64_in (by omega) (by omega)
  unfold spec_l1Cur_next
  have hsh : ∀ x : Int, shrk 64 x 40 = some (x.fdiv (2 ^ (min (40 : Int).toNat 64))) := fun x => by unfold shrk; rw [if_neg (by omega)]
  simp only [e1, hsh, Option.bind_some]
  have hcur : ∀ s, Cur ⟨c.code, c.at_ + 1, s⟩ (k + 1) := fun s => ⟨hc.by_, hc.len, by simp only; omega, by simp only; omega⟩
  have ha : ∀ q : Int, 0 ≤ w64 (andu64 q 255) ∧ w64 (andu64 q 255) ≤ 255 := fun q => by
    have := and255 q
    rw [w64_in (by omega) (by omega)]; exact this
  by_cases h : c.at_ < c.code.length
  · simp only [h, decide_true, if_true]
    obtain ⟨e, he, hm⟩ := idx_some (l := c.code) (i := c.at_) h0 h
    have hb := hc.by_ e hm
    have e2 : w64 e.n = e.n := w64_in (by omega) (by omega)
    simp only [he, Option.bind_some, e2]
    split
    · exact ⟨_, _, rfl, hb.1, hb.2, hcur _⟩
    · exact ⟨_, _, rfl, (ha _).1, (ha _).2, hcur _⟩
  · simp only [h, decide_false, Bool.false_eq_true, if_false]
    split
    · exact ⟨_, _, rfl, by omega, by omega, hcur _⟩
    · exact ⟨_, _, rfl, (ha _).1, (ha _).2, hcur _⟩
theorem Cur.mono {c : L1CurP} {k k' : Int} (hc : Cur c k) (h : k ≤ k') : Cur c k' := ⟨hc.by_, hc.len, hc.lo, Int.le_trans hc.hi h⟩
theorem pick_ok {fu : Nat} {c : L1CurP} {k : Int} (hc : Cur c k) (hk : k ≤ 4611686018427387000) (n : Int) (hn : n ≤ 1099511627776) : ∃ r c', spec_l1Cur_pick fu c n = some (r, c') ∧ 0 ≤ r ∧ (1 ≤ n → r < n) ∧ Cur c' (k + 2) := by
  unfold spec_l1Cur_pick
  by_cases h : n ≤ 1
  · simp only [h, decide_true, if_true]
    exact ⟨_, _, rfl, by omega, by omega, hc.mono (by omega)⟩
  · simp only [h, decide_false, Bool.false_eq_true, if_false]
    obtain ⟨r, c', g1, g2, g3, g4⟩ := next_ok (fu := fu) hc (by omega)
    simp only [g1, Option.bind_some]
    have hr : ∀ x : Int, 0 ≤ x → ∃ q, rem x n = some q ∧ 0 ≤ q ∧ q < n := fun x hx => by
      unfold rem
      rw [if_neg (by omega), Int.tmod_eq_emod_of_nonneg hx]
      exact ⟨_, rfl, Int.emod_nonneg _ (by omega), Int.emod_lt_of_pos _ (by omega)⟩
    by_cases h2 : n > 200
    · simp only [h2, decide_true, if_true]
      obtain ⟨r2, c2, q1, q2, q3, q4⟩ := next_ok (fu := fu) g4 (by omega)
      simp only [q1, Option.bind_some]
      rw [w64_in (n := r * 256) (by omega) (by omega), w64_in (by omega) (by omega)]
      obtain ⟨q, p1, p2, p3⟩ := hr (r * 256 + r2) (by omega)
      rw [p1]
      exact ⟨_, _, rfl, p2, fun _ => p3, q4.mono (by omega)⟩
    · simp only [h2, decide_false, Bool.false_eq_true, if_false]
      obtain ⟨q, p1, p2, p3⟩ := hr r g2
      rw [p1]
      exact ⟨_, _, rfl, p2, fun _ => p3, g4.mono (by omega)⟩
theorem among_ok {fu : Nat} {c : L1CurP} {k : Int} (hc : Cur c k) (hk : k ≤ 4611686018427387000) (l : List Int) (h1 : 1 ≤ l.length) (hn : l.length ≤ 1099511627776) : ∃ r c', spec_l1Cur_among fu c l = some (r, c') ∧ r ∈ l ∧ Cur c' (k + 2) := by
  unfold spec_l1Cur_among
  obtain ⟨r, c', g1, g2, g3, g4⟩ := pick_ok (fu := fu) hc hk (l.length : Int) (by omega)
  obtain ⟨e, he, hm⟩ := idx_some (l := l) (i := r) g2 (g3 (by omega))
  simp only [g1, Option.bind_some, he]
  exact ⟨_, _, rfl, hm, g4⟩
theorem start_cur {code : List By} (h : ∀ e ∈ code, 0 ≤ e.n ∧ e.n ≤ 255) (hl : code.length ≤ 65536) : Cur ⟨code, 0, ⟨0⟩⟩ 0 := ⟨h, hl, Int.le_refl _, Int.le_refl _⟩
end AT
