/- Masks, plainly: numbers below 2^24 as sets of slots. -/
import Derived.Test.YtokhhjepjbhhpaaGreatQPlan
set_option linter.unusedSimpArgs false
set_option linter.unusedVariables false
namespace AT
def MK (m : Int) : Prop := 0 ≤ m ∧ m < 16777216
theorem ofInt_nat {m : Int} (h : MK m) : (BitVec.ofInt 64 m).toNat = m.toNat := by
  rw [BitVec.toNat_ofInt]
  have : ((2 ^ 64 : Nat) : Int) = 18446744073709551616 := by decide
  rw [this]
  unfold MK at h
  omega
theorem band_eq {a b : Int} (ha : MK a) (hb : MK b) : band a b = ((a.toNat &&& b.toNat : Nat) : Int) := by
  unfold band
  rw [BitVec.toNat_and, ofInt_nat ha, ofInt_nat hb]
  have h1 : a.toNat &&& b.toNat < 2 ^ 24 := Nat.and_lt_two_pow _ (by unfold MK at hb; omega)
  exact w64_in (by omega) (by omega)
theorem bor_eq {a b : Int} (ha : MK a) (hb : MK b) : bor a b = ((a.toNat ||| b.toNat : Nat) : Int) := by
  unfold bor
  rw [BitVec.toNat_or, ofInt_nat ha, ofInt_nat hb]
  have h1 : a.toNat ||| b.toNat < 2 ^ 24 := Nat.or_lt_two_pow (by unfold MK at ha; omega) (by unfold MK at hb; omega)
  exact w64_in (by omega) (by omega)
theorem bor_mk {a b : Int} (ha : MK a) (hb : MK b) : MK (bor a b) := by
  rw [bor_eq ha hb]
  have h1 : a.toNat ||| b.toNat < 2 ^ 24 := Nat.or_lt_two_pow (by unfold MK at ha; omega) (by unfold MK at hb; omega)
  unfold MK
  omega
theorem mk0 : MK 0 := by unfold MK; omega
/-- Have two masks no slot in common? -/
def apart (a b : Int) : Bool := band a b == 0
theorem apart_bor {a b c : Int} (ha : MK a) (hb : MK b) (hc : MK c) : apart (bor a b) c = (apart a c && apart b c) := by
  unfold apart
  rw [band_eq (bor_mk ha hb) hc, band_eq ha hc, band_eq hb hc, bor_eq ha hb, Int.toNat_natCast, Nat.and_or_distrib_right]
  rw [Bool.eq_iff_iff]
  simp only [beq_iff_eq, Bool.and_eq_true, Int.natCast_eq_zero, Nat.or_eq_zero_iff]
theorem apart_zero {c : Int} (hc : MK c) : apart 0 c = true := by
  unfold apart
  rw [band_eq mk0 hc]
  simp
theorem bits_mk {b : Block} (h : blkOk b = true) : MK (bits b) := bits_bound h
theorem bits_nat {b : Block} (h : blkOk b = true) : (bits b).toNat = (2 ^ b.Count.toNat - 1) * 2 ^ b.First.toNat := by
  have h1 : 1 ≤ (2 : Nat) ^ b.Count.toNat := Nat.one_le_two_pow
  have : bits b = (((2 ^ b.Count.toNat - 1) * 2 ^ b.First.toNat : Nat) : Int) := by
    unfold bits
    rw [Int.natCast_mul, Int.natCast_sub h1]
    norm_cast
  rw [this, Int.toNat_natCast]
theorem bits_test {b : Block} (h : blkOk b = true) (j : Nat) : (bits b).toNat.testBit j = (decide (b.First.toNat ≤ j) && decide (j - b.First.toNat < b.Count.toNat)) := by
  rw [bits_nat h, Nat.testBit_mul_two_pow, Nat.testBit_two_pow_sub_one]
/-- Blocks are apart just if one lies behind the other. -/
theorem bits_apart {a b : Block} (ha : blkOk a = true) (hb : blkOk b = true) : apart (bits a) (bits b) = decide (a.First + a.Count ≤ b.First ∨ b.First + b.Count ≤ a.First) := by
  have ha' := ha
  have hb' := hb
  simp only [blkOk, Bool.and_eq_true, decide_eq_true_eq] at ha' hb'
  unfold apart
  rw [band_eq (bits_mk ha) (bits_mk hb), Bool.eq_iff_iff, beq_iff_eq, decide_eq_true_eq, Int.natCast_eq_zero]
  constructor
  · intro h
    rcases Classical.em (a.First + a.Count ≤ b.First ∨ b.First + b.Count ≤ a.First) with hc | hc
    · exact hc
    · have hj : ∃ j : Nat, a.First ≤ j ∧ (j : Int) < a.First + a.Count ∧ b.First ≤ j ∧ (j : Int) < b.First + b.Count := by
        rcases Classical.em (a.First ≤ b.First) with h1 | h1
        · exact ⟨b.First.toNat, by omega, by omega, by omega, by omega⟩
        · exact ⟨a.First.toNat, by omega, by omega, by omega, by omega⟩
      obtain ⟨j, j1, j2, j3, j4⟩ := hj
      have ht : ((bits a).toNat &&& (bits b).toNat).testBit j = true := by
        rw [Nat.testBit_and, bits_test ha, bits_test hb]
        simp only [Bool.and_eq_true, decide_eq_true_eq]
        omega
      rw [h, Nat.zero_testBit] at ht
      cases ht
  · intro h
    apply Nat.eq_of_testBit_eq
    intro j
    rw [Nat.testBit_and, bits_test ha, bits_test hb, Nat.zero_testBit, Bool.eq_false_iff]
    simp only [ne_eq, Bool.and_eq_true, decide_eq_true_eq]
    omega
theorem meets_comm (a b : List Int) : meets a b = meets b a := by
  rw [Bool.eq_iff_iff]
  unfold meets
  simp only [List.any_eq_true, beq_iff_eq]
  constructor
  · rintro ⟨x, hx, y, hy, rfl⟩; exact ⟨y, hy, y, hx, rfl⟩
  · rintro ⟨x, hx, y, hy, rfl⟩; exact ⟨y, hy, y, hx, rfl⟩
/-! ### The slots that lights occupy on a fiber, along a route -/
def has (l : List Int) (f : Int) : Bool := l.any fun x => x == f
def used (L : List Light) (f : Int) : Int := L.foldl (fun o y => if has y.Route.Fibers f = true then bor o (bits y.Block) else o) 0
def along (L : List Light) (fs : List Int) : Int := fs.foldl (fun o f => bor o (used L f)) 0
theorem used_from {L : List Light} (hL : ∀ y ∈ L, blkOk y.Block = true) (f : Int) {c : Int} (hc : MK c) : ∀ {o : Int}, MK o → MK (L.foldl (fun o y => if has y.Route.Fibers f = true then bor o (bits y.Block) else o) o) ∧ apart (L.foldl (fun o y => if has y.Route.Fibers f = true then bor o (bits y.Block) else o) o) c = (apart o c && L.all fun y => !has y.Route.Fibers f || apart (bits y.Block) c) := by
  induction L with
  | nil => intro o ho; exact ⟨ho, by simp⟩
  | cons y L ih =>
    intro o ho
    have hb := bits_mk (hL y (by simp))
    have ih' := @ih (fun z hz => hL z (by simp [hz]))
    simp only [List.foldl_cons, List.all_cons]
    by_cases h : has y.Route.Fibers f = true
    · simp only [h, if_true, Bool.not_true, Bool.false_or]
      have := ih' (bor_mk ho hb)
      rw [apart_bor ho hb hc] at this
      exact ⟨this.1, by rw [this.2, Bool.and_assoc]⟩
    · rw [Bool.not_eq_true] at h
      simp only [h, Bool.false_eq_true, if_false, Bool.not_false, Bool.true_or, Bool.true_and]
      exact ih' ho
theorem used_mk {L : List Light} (hL : ∀ y ∈ L, blkOk y.Block = true) (f : Int) : MK (used L f) := (used_from hL f mk0 mk0).1
theorem used_apart {L : List Light} (hL : ∀ y ∈ L, blkOk y.Block = true) (f : Int) {c : Int} (hc : MK c) : apart (used L f) c = L.all fun y => !has y.Route.Fibers f || apart (bits y.Block) c := by
  have := (used_from hL f hc mk0).2
  rw [apart_zero hc, Bool.true_and] at this
  exact this
theorem along_from {L : List Light} (hL : ∀ y ∈ L, blkOk y.Block = true) {c : Int} (hc : MK c) : ∀ (fs : List Int) {o : Int}, MK o → MK (fs.foldl (fun o f => bor o (used L f)) o) ∧ apart (fs.foldl (fun o f => bor o (used L f)) o) c = (apart o c && fs.all fun f => apart (used L f) c)
  | [], o, ho => ⟨ho, by simp⟩
  | f :: fs, o, ho => by
    have hu := used_mk hL f
    have := along_from hL hc fs (bor_mk ho hu)
    rw [apart_bor ho hu hc] at this
    simp only [List.foldl_cons, List.all_cons]
    exact ⟨this.1, by rw [this.2, Bool.and_assoc]⟩
theorem along_mk {L : List Light} (hL : ∀ y ∈ L, blkOk y.Block = true) (fs : List Int) : MK (along L fs) := (along_from hL mk0 fs mk0).1
/-- A block is free along a route just if no light on a common fiber has a slot of it. -/
theorem along_apart {L : List Light} (hL : ∀ y ∈ L, blkOk y.Block = true) (fs : List Int) {c : Int} (hc : MK c) : apart (along L fs) c = L.all fun y => !(meets y.Route.Fibers fs && !apart (bits y.Block) c) := by
  have h := (along_from hL hc fs mk0).2
  rw [apart_zero hc, Bool.true_and] at h
  unfold along
  rw [h, Bool.eq_iff_iff]
  simp only [List.all_eq_true, used_apart hL _ hc, Bool.or_eq_true, Bool.not_eq_true', Bool.and_eq_false_iff, Bool.not_eq_false']
  constructor
  · intro hh y hy
    rcases Bool.eq_false_or_eq_true (meets y.Route.Fibers fs) with hm | hm
    · right
      unfold meets at hm
      simp only [List.any_eq_true, beq_iff_eq] at hm
      obtain ⟨x, hx, z, hz, rfl⟩ := hm
      rcases hh z hz y hy with h1 | h1
      · unfold has at h1
        rw [Bool.eq_false_iff] at h1
        exact absurd (List.any_eq_true.2 ⟨z, hx, by simp⟩) h1
      · exact h1
    · exact .inl hm
  · intro hh f hf y hy
    rcases hh y hy with h1 | h1
    · left
      rw [Bool.eq_false_iff] at h1 ⊢
      intro h2
      unfold has at h2
      simp only [List.any_eq_true, beq_iff_eq] at h2
      obtain ⟨x, hx, rfl⟩ := h2
      exact h1 (List.any_eq_true.2 ⟨x, hx, List.any_eq_true.2 ⟨x, hf, by simp⟩⟩)
    · exact .inr h1
end AT
