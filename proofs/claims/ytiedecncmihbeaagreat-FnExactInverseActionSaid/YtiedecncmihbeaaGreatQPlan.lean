/- Plans, plainly: blocks, lights, collisions, validity. -/
import Derived.Test.YtiedecncmihbeaaGreatQSort
set_option linter.unusedSimpArgs false
set_option linter.unusedVariables false
namespace AT
theorem uses_eq {fu : Nat} (hfu : 2097153 ≤ fu) (r : Route) (g : List Int) (hr : r.Fibers.length ≤ 2097152) (hg : g.length ≤ 2097152) : spec_l4Uses fu r g = some (meets r.Fibers g) := by
  unfold spec_l4Uses
  rw [scan_all (l := r.Fibers) (G := spec_l4Uses_L1 fu r g) (fun x => g.any fun y => y == x) (fun i => true) (by omega)
    (fun fk i hi => by
      have h' : (i : Int) < (r.Fibers.length : Int) := by omega
      rw [spec_l4Uses_L1]
      simp only [h', decide_true, if_true, idx_in hi, Option.bind_some, l1Has_eq g r.Fibers[i] (show g.length < fu by omega) hg])
    (fun fk => by rw [spec_l4Uses_L1, if_neg (by simp)]) fu (by omega)]
  unfold meets
  cases r.Fibers.any fun x => g.any fun y => y == x <;> rfl
/-! ### Blocks -/
def blkOk (b : Block) : Bool := decide (0 ≤ b.First) && (decide (1 ≤ b.Count) && decide (b.First + b.Count ≤ 24))
theorem l8Good_eq (fu : Nat) (b : Block) : spec_l8Good fu b = some (blkOk b) := by
  unfold spec_l8Good blkOk
  simp only [l1In_eq, Option.bind_some]
  by_cases h : 0 ≤ b.First ∧ b.First ≤ 23
  · have hc : (decide (0 ≤ b.First) && decide (b.First ≤ 23)) = true := by simpa using h
    rw [w64_in (by omega) (by omega)]
    simp only [hc, if_true, Option.bind_some, Option.some.injEq]
    rw [Bool.eq_iff_iff]
    simp only [Bool.and_eq_true, decide_eq_true_eq]
    omega
  · have hc : (decide (0 ≤ b.First) && decide (b.First ≤ 23)) = false := by rw [Bool.eq_false_iff]; simp only [ne_eq, Bool.and_eq_true, decide_eq_true_eq]; exact h
    simp only [hc, Bool.false_eq_true, if_false, Option.bind_some, Option.some.injEq]
    rw [Bool.eq_iff_iff]
    simp only [Bool.and_eq_true, decide_eq_true_eq, Bool.false_eq_true, false_iff]
    omega
theorem implBlk_eq (fu : Nat) (b : Block) : impl_IsValidBlock fu b = some (blkOk b) := by
  unfold impl_IsValidBlock blkOk
  simp only [within_eq, Option.bind_some]
  by_cases h0 : 0 ≤ b.First
  · by_cases h : 1 ≤ b.Count ∧ b.Count ≤ 24
    · have hc : (decide (1 ≤ b.Count) && decide (b.Count ≤ 24)) = true := by simpa using h
      rw [w64_in (by omega) (by omega)]
      simp only [ge_iff_le, h0, hc, decide_true, if_true, Option.bind_some, Option.some.injEq, Bool.true_and]
      rw [Bool.eq_iff_iff]
      simp only [Bool.and_eq_true, decide_eq_true_eq]
      omega
    · have hc : (decide (1 ≤ b.Count) && decide (b.Count ≤ 24)) = false := by rw [Bool.eq_false_iff]; simp only [ne_eq, Bool.and_eq_true, decide_eq_true_eq]; exact h
      simp only [ge_iff_le, h0, hc, decide_true, if_true, Bool.false_eq_true, if_false, Option.bind_some, Option.some.injEq]
      rw [Bool.eq_iff_iff]
      simp only [Bool.and_eq_true, decide_eq_true_eq, Bool.false_eq_true, false_iff]
      omega
  · simp [h0]
/-- The slots of a block, as a mask. -/
def bits (b : Block) : Int := (2 ^ b.Count.toNat - 1) * 2 ^ b.First.toNat
theorem pow_le24 {k : Nat} (h : k ≤ 24) : (1 : Int) ≤ 2 ^ k ∧ (2 : Int) ^ k ≤ 16777216 := by
  have h1 : (2 : Nat) ^ k ≤ 2 ^ 24 := Nat.pow_le_pow_right (by omega) h
  have h2 : 1 ≤ (2 : Nat) ^ k := Nat.one_le_two_pow
  have h3 : ((2 ^ k : Nat) : Int) = 2 ^ k := by norm_cast
  omega
theorem bits_bound {b : Block} (h : blkOk b = true) : 0 ≤ bits b ∧ bits b < 16777216 := by
  simp only [blkOk, Bool.and_eq_true, decide_eq_true_eq] at h
  have e : (2 : Int) ^ b.Count.toNat * 2 ^ b.First.toNat = 2 ^ (b.Count.toNat + b.First.toNat) := (Int.pow_add _ _ _).symm
  have h1 := pow_le24 (show b.Count.toNat ≤ 24 by omega)
  have h2 := pow_le24 (show b.First.toNat ≤ 24 by omega)
  have h3 := pow_le24 (show b.Count.toNat + b.First.toNat ≤ 24 by omega)
  unfold bits
  rw [Int.sub_mul, e, Int.one_mul]
  refine ⟨?_, by omega⟩
  have h4 : (2 : Int) ^ b.First.toNat ≤ 2 ^ (b.Count.toNat + b.First.toNat) := by
    have : (2 : Nat) ^ b.First.toNat ≤ 2 ^ (b.Count.toNat + b.First.toNat) := Nat.pow_le_pow_right (by omega) (by omega)
    have e1 : ((2 ^ b.First.toNat : Nat) : Int) = 2 ^ b.First.toNat := by norm_cast
    have e2 : ((2 ^ (b.Count.toNat + b.First.toNat) : Nat) : Int) = 2 ^ (b.Count.toNat + b.First.toNat) := by norm_cast
    omega
  omega
theorem shl_bits {b : Block} (h : blkOk b = true) : ((shl 1 b.Count).bind fun q => (shl (w64 (q - 1)) b.First).bind fun q2 => some q2) = some (bits b) := by
  have hb := bits_bound h
  simp only [blkOk, Bool.and_eq_true, decide_eq_true_eq] at h
  have h1 := pow_le24 (show b.Count.toNat ≤ 24 by omega)
  have m1 : min b.Count.toNat 64 = b.Count.toNat := by omega
  have m2 : min b.First.toNat 64 = b.First.toNat := by omega
  unfold shl
  rw [if_neg (show ¬ b.Count < 0 by omega), Option.bind_some, if_neg (show ¬ b.First < 0 by omega), m1, m2, Int.one_mul, w64_in (n := 2 ^ b.Count.toNat) (by omega) (by omega), w64_in (n := 2 ^ b.Count.toNat - 1) (by omega) (by omega)]
  have : (2 ^ b.Count.toNat - 1) * 2 ^ b.First.toNat = bits b := rfl
  rw [this, w64_in (by omega) (by omega)]
  rfl
theorem maskOf_eq {fu : Nat} {b : Block} (h : blkOk b = true) : impl_maskOf fu b = some (bits b) := shl_bits h
theorem wu64_in {n : Int} (h : 0 ≤ n) (h' : n < 18446744073709551616) : wu64 n = n := by unfold wu64; omega
theorem l8Bits_eq {fu : Nat} {b : Block} (h : blkOk b = true) : spec_l8Bits fu b = some (bits b) := by
  unfold spec_l8Bits
  have h' := h
  simp only [blkOk, Bool.and_eq_true, decide_eq_true_eq] at h'
  rw [wu64_in (by omega) (by omega), wu64_in (by omega) (by omega)]
  exact shl_bits h
/-! ### Lights -/
def lightOk (n : Network) (x : Light) : Bool := (decide (1 ≤ x.Id) && decide (x.Id ≤ 999)) && ((rnodes n x.Route).isSome && blkOk x.Block)
theorem isLight_eq {fu : Nat} (hfu : 2097153 ≤ fu) (n : Network) (x : Light) (hB : NetB n) (hr : x.Route.Fibers.length ≤ 2097152) : impl_isLight fu n x = some (lightOk n x) := by
  unfold impl_isLight lightOk
  rw [visited_eq hfu n x.Route hB.2 hB.1.1 hr]
  simp only [within_eq, implBlk_eq, Option.bind_some]
  cases rnodes n x.Route with
  | none => simp
  | some o => cases hc : (decide (1 ≤ x.Id) && decide (x.Id ≤ 999)) <;> simp [hc]
theorem l9Light_eq {fu : Nat} (hfu : 2097153 ≤ fu) (n : Network) (x : Light) (hB : NetB n) (hn : netOk n = true) (hr : x.Route.Fibers.length ≤ 2097152) : spec_l9Light fu n x = some (lightOk n x) := by
  unfold spec_l9Light lightOk
  simp only [l1In_eq, l8Good_eq, l4Good_eq hfu n x.Route hB hr, hn, Bool.true_and, Option.bind_some]
  cases hc : (decide (1 ≤ x.Id) && decide (x.Id ≤ 999))
  · simp
  · cases (rnodes n x.Route).isSome <;> simp
def coll (a b : Light) : Bool := meets a.Route.Fibers b.Route.Fibers && (band (bits a.Block) (bits b.Block) != 0)
structure LightF (n : Network) (x : Light) : Prop where
  nodup : x.Route.Fibers.Nodup
  short : x.Route.Fibers.length ≤ 7
  blk : blkOk x.Block = true
  route : ∃ o, rnodes n x.Route = some o
  id : 1 ≤ x.Id ∧ x.Id ≤ 999
theorem lightF {n : Network} {x : Light} (hn : netOk n = true) (h : lightOk n x = true) : LightF n x := by
  unfold lightOk at h
  simp only [Bool.and_eq_true, decide_eq_true_eq] at h
  obtain ⟨h1, h2, h3⟩ := h
  obtain ⟨o, ho⟩ := Option.isSome_iff_exists.1 h2
  have hf := rnodes_facts (netF hn) ho
  exact ⟨hf.2.2.1, hf.2.2.2.1, h3, ⟨o, ho⟩, h1⟩
theorem l9Collide_eq {fu : Nat} (hfu : 2097153 ≤ fu) {n : Network} {a b : Light} (ha : LightF n a) (hb : LightF n b) : spec_l9Collide fu a b = some (coll a b) := by
  unfold spec_l9Collide coll
  have h1 := ha.short
  have h2 := hb.short
  rw [uses_eq hfu a.Route b.Route.Fibers (by omega) (by omega)]
  simp only [l8Bits_eq ha.blk, l8Bits_eq hb.blk, Option.bind_some]
  cases meets a.Route.Fibers b.Route.Fibers <;> simp
theorem and_of (q m : Bool) : ((if q = true then some m else some false).bind fun c => some c) = some (m && q) := by cases q <;> cases m <;> rfl
theorem collide_eq {fu : Nat} (hfu : 2097153 ≤ fu) {n : Network} {a b : Light} (ha : LightF n a) (hb : LightF n b) : impl_collide fu a b = some (coll a b) := by
  unfold impl_collide coll
  have h1 := ha.short
  have h2 := hb.short
  obtain ⟨c, hc, hd⟩ := common_ok (fu := fu) a.Route.Fibers b.Route.Fibers (by omega) ha.nodup (by omega) hfu
  rw [maskOf_eq ha.blk, Option.bind_some, maskOf_eq hb.blk, Option.bind_some, hc, Option.bind_some, hd]
  exact and_of _ _
/-! ### Loops that look for the first that is so, where what lies ahead is known not to be so -/
theorem scan_prev {α R : Type} {l : List α} {G : Nat → Int → Option (Out Int R)} (p : Nat → Bool) (r : Nat → R) (hn : (l.length : Int) ≤ 9223372036854775807)
    (hG : ∀ fk (i : Nat) (h : i < l.length), (∀ j, j < i → p j = false) → G (fk + 1) i = if p i = true then some (.ret (r i)) else G fk (w64 ((i : Int) + 1)))
    (hz : ∀ fk, G (fk + 1) l.length = some (.next (l.length : Int))) : ∀ (fk i : Nat), l.length - i < fk → i ≤ l.length → (∀ j, j < i → p j = false) →
    (∃ k, k < l.length ∧ i ≤ k ∧ p k = true ∧ (∀ j, j < k → p j = false) ∧ G fk i = some (.ret (r k))) ∨ ((∀ j, j < l.length → p j = false) ∧ G fk i = some (.next (l.length : Int))) := by
  intro fk
  induction fk with
  | zero => intro i h; omega
  | succ fk ih =>
    intro i hk hi hp
    by_cases h : i < l.length
    · rw [hG fk i h hp]
      by_cases hc : p i = true
      · rw [if_pos hc]
        exact .inl ⟨i, h, Nat.le_refl _, hc, hp, rfl⟩
      · rw [if_neg hc, w64_inc h hn]
        rw [Bool.not_eq_true] at hc
        have hp' : ∀ j, j < i + 1 → p j = false := fun j hj => by
          rcases Nat.lt_or_ge j i with h' | h'
          · exact hp j h'
          · obtain rfl : j = i := by omega
            exact hc
        rcases ih (i + 1) (by omega) h hp' with ⟨k, k1, k2, k3, k4, k5⟩ | ⟨h1, h2⟩
        · exact .inl ⟨k, k1, by omega, k3, k4, k5⟩
        · exact .inr ⟨h1, h2⟩
    · obtain rfl : i = l.length := by omega
      rw [hz]
      exact .inr ⟨hp, rfl⟩
theorem scan_any {α R : Type} {l : List α} {G : Nat → Int → Option (Out Int R)} (p : Nat → Bool) (r : R) (hn : (l.length : Int) ≤ 9223372036854775807)
    (hG : ∀ fk (i : Nat) (h : i < l.length), (∀ j, j < i → p j = false) → G (fk + 1) i = if p i = true then some (.ret r) else G fk (w64 ((i : Int) + 1)))
    (hz : ∀ fk, G (fk + 1) l.length = some (.next (l.length : Int))) (fk : Nat) (hk : l.length < fk) : G fk 0 = some (if (List.range l.length).any p = true then .ret r else .next (l.length : Int)) := by
  rcases scan_prev p (fun _ => r) hn hG hz fk 0 (by omega) (by omega) (fun j h => by omega) with ⟨k, k1, -, k3, -, k5⟩ | ⟨h1, h2⟩
  · rw [if_pos (List.any_eq_true.2 ⟨k, List.mem_range.2 k1, k3⟩)]
    exact k5
  · rw [if_neg]
    · exact h2
    · intro h
      obtain ⟨k, k1, k2⟩ := List.any_eq_true.1 h
      rw [h1 k (List.mem_range.1 k1)] at k2
      cases k2
/-! ### Plans -/
def l0 : Light := ⟨0, ⟨0, []⟩, ⟨0, 0⟩⟩
def planBad (n : Network) (L : List Light) (i : Nat) : Bool := !lightOk n (gd L i l0) || ((decide (0 < i) && decide ((gd L (i - 1) l0).Id ≥ (gd L i l0).Id)) || (L.take i).any fun y => coll y (gd L i l0))
def planOk (p : Plan) : Bool := netOk p.Network && (decide (p.Lights.length ≤ 12) && !((List.range p.Lights.length).any (planBad p.Network p.Lights)))
def PlanB (p : Plan) : Prop := NetB p.Network ∧ p.Lights.length ≤ 2097152 ∧ ∀ x ∈ p.Lights, x.Route.Fibers.length ≤ 2097152
theorem prev_ok {n : Network} {L : List Light} {i : Nat} (h : i < L.length) (hp : ∀ j, j < i → planBad n L j = false) : ∀ y ∈ L.take i, lightOk n y = true := by
  intro y hy
  obtain ⟨j, hj, rfl⟩ := List.mem_iff_getElem.1 hy
  rw [List.length_take] at hj
  rw [List.getElem_take]
  have := hp j (by omega)
  unfold planBad at this
  rw [Bool.or_eq_false_iff, gd_in l0 (show j < L.length by omega)] at this
  simpa using this.1
theorem containsC_eq {fu : Nat} (hfu : 2097153 ≤ fu) {n : Network} (l : List Light) (x : Light) (hl : l.length ≤ 2097152) (hL : ∀ y ∈ l, LightF n y) (hx : LightF n x) : slices_ContainsFunc_impl_Light_impl_Light_of_IsValidPlan_c1 fu l x = some (l.any fun y => coll y x) := by
  unfold slices_ContainsFunc_impl_Light_impl_Light_of_IsValidPlan_c1 slices_IndexFunc_impl_Light_impl_Light_of_IsValidPlan_c1
  rw [scan_all (l := l) (G := slices_IndexFunc_impl_Light_impl_Light_of_IsValidPlan_c1_L1 fu l x) (fun y => coll y x) (fun i => (i : Int)) (by omega)
    (fun fk i hi => by
      have h' : (i : Int) < (l.length : Int) := by omega
      rw [slices_IndexFunc_impl_Light_impl_Light_of_IsValidPlan_c1_L1]
      simp only [h', decide_true, if_true, idx_in hi, Option.bind_some, impl_IsValidPlan_c1, collide_eq hfu (hL _ (List.getElem_mem hi)) hx])
    (fun fk => by rw [slices_IndexFunc_impl_Light_impl_Light_of_IsValidPlan_c1_L1, if_neg (by simp)]) fu (by omega)]
  cases l.any fun y => coll y x <;> simp [Out.on]
theorem implPlan_eq {fu : Nat} (hfu : 2097153 ≤ fu) (p : Plan) (hB : PlanB p) : impl_IsValidPlan fu p = some (planOk p) := by
  obtain ⟨hN, hL, hR⟩ := hB
  unfold impl_IsValidPlan planOk
  rw [implNet_eq hfu _ hN, Option.bind_some]
  cases hn : netOk p.Network
  · rfl
  · simp only [Bool.not_true, Bool.false_eq_true, if_false, Option.bind_some, Bool.true_and]
    by_cases h12 : p.Lights.length ≤ 12
    · have h12' : ¬ (p.Lights.length : Int) > 12 := by omega
      simp only [h12', decide_false, Bool.false_eq_true, if_false, h12, decide_true, Bool.true_and]
      rw [scan_any (l := p.Lights) (G := impl_IsValidPlan_L1 fu p) (planBad p.Network p.Lights) false (by omega)
        (fun fk i hi hp => by
          have h' : (i : Int) < (p.Lights.length : Int) := by omega
          have hr := hR _ (gd_mem l0 hi)
          rw [impl_IsValidPlan_L1]
          simp only [h', decide_true, if_true, idx_gd l0 hi, Option.bind_some, isLight_eq hfu _ _ hN hr, sub_take (show i ≤ p.Lights.length by omega)]
          by_cases hl : lightOk p.Network (gd p.Lights i l0) = true
          · have hf := lightF hn hl
            have hc := containsC_eq hfu (p.Lights.take i) (gd p.Lights i l0) (by simp; omega) (fun y hy => lightF hn (prev_ok hi hp y hy)) hf
            simp only [planBad, hl, Bool.not_true, Bool.false_eq_true, if_false, hc, Option.bind_some, Bool.false_or]
            by_cases h0 : 0 < i
            · have h0' : (i : Int) > 0 := by omega
              simp only [h0', h0, decide_true, if_true, w64_dec h0 (show i ≤ 2097152 by omega), idx_gd l0 (show i - 1 < p.Lights.length by omega), Option.bind_some, Bool.true_and]
              by_cases hid : (gd p.Lights (i - 1) l0).Id ≥ (gd p.Lights i l0).Id
              · simp [hid]
              · simp only [hid, decide_false, Bool.false_eq_true, if_false, Bool.false_or, Option.bind_some]
            · have h0' : ¬ (i : Int) > 0 := by omega
              simp only [h0', h0, decide_false, Bool.false_eq_true, if_false, Bool.false_and, Bool.false_or, Option.bind_some]
          · rw [Bool.not_eq_true] at hl
            simp [planBad, hl])
        (fun fk => by rw [impl_IsValidPlan_L1, if_neg (by simp)]) fu (by omega)]
      cases (List.range p.Lights.length).any (planBad p.Network p.Lights) <;> rfl
    · have h12' : (p.Lights.length : Int) > 12 := by omega
      simp [h12', h12]
theorem specPlan_eq {fu : Nat} (hfu : 2097153 ≤ fu) (p : Plan) (hB : PlanB p) : spec_l9Good fu p = some (planOk p) := by
  obtain ⟨hN, hL, hR⟩ := hB
  unfold spec_l9Good planOk
  rw [specNet_eq hfu _ hN, Option.bind_some]
  cases hn : netOk p.Network
  · rfl
  · simp only [Bool.not_true, Bool.false_eq_true, if_false, Option.bind_some, Bool.true_and]
    by_cases h12 : p.Lights.length ≤ 12
    · have h12' : ¬ (p.Lights.length : Int) > 12 := by omega
      simp only [h12', decide_false, Bool.false_eq_true, if_false, h12, decide_true, Bool.true_and]
      rw [scan_any (l := p.Lights) (G := spec_l9Good_L1 fu p) (planBad p.Network p.Lights) false (by omega)
        (fun fk i hi hp => by
          have h' : (i : Int) < (p.Lights.length : Int) := by omega
          have hr := hR _ (gd_mem l0 hi)
          rw [spec_l9Good_L1]
          simp only [h', decide_true, if_true, idx_gd l0 hi, Option.bind_some, l9Light_eq hfu _ _ hN hn hr]
          by_cases hl : lightOk p.Network (gd p.Lights i l0) = true
          · have hf := lightF hn hl
            have hc : spec_l9Good_L2 fu p i fu 0 = some (if (List.range (p.Lights.take i).length).any (fun k => coll (gd p.Lights k l0) (gd p.Lights i l0)) = true then .ret false else .next ((p.Lights.take i).length : Int)) :=
              scan_any (l := p.Lights.take i) (G := spec_l9Good_L2 fu p i) (fun k => coll (gd p.Lights k l0) (gd p.Lights i l0)) false (by simp; omega)
                (fun fk k hk _ => by
                  have hk' : k < i := by simp at hk; omega
                  have hk2 : (k : Int) < (i : Int) := by omega
                  have hfk := lightF hn (prev_ok hi hp (gd p.Lights k l0) (by
                    rw [gd_in l0 (show k < p.Lights.length by omega)]
                    refine List.mem_iff_getElem.2 ⟨k, hk, by rw [List.getElem_take]⟩))
                  rw [spec_l9Good_L2]
                  simp only [hk2, decide_true, if_true, idx_gd l0 hi, idx_gd l0 (show k < p.Lights.length by omega), Option.bind_some, l9Collide_eq hfu hfk hf])
                (fun fk => by
                  have : (p.Lights.take i).length = i := by simp; omega
                  rw [this, spec_l9Good_L2, if_neg (by simp)]) fu (by simp; omega)
            have ha : (List.range (p.Lights.take i).length).any (fun k => coll (gd p.Lights k l0) (gd p.Lights i l0)) = (p.Lights.take i).any fun y => coll y (gd p.Lights i l0) := by
              rw [Bool.eq_iff_iff, List.any_eq_true, List.any_eq_true]
              constructor
              · rintro ⟨k, k1, k2⟩
                have k1' := List.mem_range.1 k1
                have hk' : k < i := by simp at k1'; omega
                rw [gd_in l0 (show k < p.Lights.length by omega)] at k2
                exact ⟨_, List.mem_iff_getElem.2 ⟨k, k1', by rw [List.getElem_take]⟩, k2⟩
              · rintro ⟨y, y1, y2⟩
                obtain ⟨k, k1, rfl⟩ := List.mem_iff_getElem.1 y1
                have hk' : k < i := by simp at k1; omega
                refine ⟨k, List.mem_range.2 k1, ?_⟩
                rw [gd_in l0 (show k < p.Lights.length by omega)]
                rw [List.getElem_take] at y2
                exact y2
            rw [ha] at hc
            simp only [planBad, hl, Bool.not_true, Bool.false_eq_true, if_false, hc, Option.bind_some, Bool.false_or]
            by_cases h0 : 0 < i
            · have h0' : (i : Int) > 0 := by omega
              simp only [h0', h0, decide_true, if_true, w64_dec h0 (show i ≤ 2097152 by omega), idx_gd l0 (show i - 1 < p.Lights.length by omega), Option.bind_some, Bool.true_and]
              by_cases hid : (gd p.Lights (i - 1) l0).Id ≥ (gd p.Lights i l0).Id
              · simp [hid]
              · simp only [hid, decide_false, Bool.false_eq_true, if_false, Bool.false_or, Option.bind_some]
                cases (p.Lights.take i).any fun y => coll y (gd p.Lights i l0) <;> rfl
            · have h0' : ¬ (i : Int) > 0 := by omega
              simp only [h0', h0, decide_false, Bool.false_eq_true, if_false, Bool.false_and, Bool.false_or, Option.bind_some]
              cases (p.Lights.take i).any fun y => coll y (gd p.Lights i l0) <;> rfl
          · rw [Bool.not_eq_true] at hl
            simp [planBad, hl])
        (fun fk => by rw [spec_l9Good_L1, if_neg (by simp)]) fu (by omega)]
      cases (List.range p.Lights.length).any (planBad p.Network p.Lights) <;> rfl
    · have h12' : (p.Lights.length : Int) > 12 := by omega
      simp [h12', h12]
structure PlanF (p : Plan) : Prop where
  net : netOk p.Network = true
  short : p.Lights.length ≤ 12
  light : ∀ x ∈ p.Lights, LightF p.Network x
theorem planF {p : Plan} (h : planOk p = true) : PlanF p := by
  unfold planOk at h
  simp only [Bool.and_eq_true, decide_eq_true_eq, Bool.not_eq_true'] at h
  obtain ⟨h1, h2, h3⟩ := h
  refine ⟨h1, h2, fun x hx => ?_⟩
  obtain ⟨i, hi, rfl⟩ := List.mem_iff_getElem.1 hx
  rw [Bool.eq_false_iff] at h3
  have h6 : planBad p.Network p.Lights i = false := by
    rw [Bool.eq_false_iff]
    intro h7
    exact h3 (List.any_eq_true.2 ⟨i, List.mem_range.2 hi, h7⟩)
  unfold planBad at h6
  rw [Bool.or_eq_false_iff, gd_in l0 hi] at h6
  exact lightF h1 (by simpa using h6.1)
end AT

