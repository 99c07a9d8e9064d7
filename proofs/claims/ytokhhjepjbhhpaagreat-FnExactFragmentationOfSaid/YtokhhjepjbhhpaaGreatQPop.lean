/- The number of slots of a mask, plainly: what the library's OnesCount computes. -/
import Derived.Test.YtokhhjepjbhhpaaGreatQMask
set_option linter.unusedSimpArgs false
set_option linter.unusedVariables false
namespace AT
theorem and_cat {a m b n : Nat} (ha : a < 256) (hm : m < 256) : (a + 256 * b) &&& (m + 256 * n) = (a &&& m) + 256 * (b &&& n) := by
  apply Nat.eq_of_testBit_eq
  intro j
  have e : ∀ x y : Nat, x < 256 → (x + 256 * y).testBit j = if j < 8 then x.testBit j else y.testBit (j - 8) := fun x y hx => by
    rw [Nat.add_comm, show (256 : Nat) = 2 ^ 8 from rfl, Nat.testBit_two_pow_mul_add _ (by simpa using hx)]
  have hand : a &&& m < 256 := Nat.and_lt_two_pow (n := 8) _ hm
  rw [Nat.testBit_and, e a b ha, e m n hm, e _ _ hand]
  split <;> rw [Nat.testBit_and]
def pop8 (b : Nat) : Nat := b % 2 + b / 2 % 2 + b / 4 % 2 + b / 8 % 2 + b / 16 % 2 + b / 32 % 2 + b / 64 % 2 + b / 128 % 2
def s1 (b : Nat) : Nat := (b / 2 &&& 0x55) + (b &&& 0x55)
def s2 (b : Nat) : Nat := (b / 4 &&& 0x33) + (b &&& 0x33)
def s3 (b : Nat) : Nat := (b / 16 + b) &&& 0x0f
set_option maxRecDepth 100000 in
theorem byte_pop : ∀ b : Fin 256, s1 b < 256 ∧ (s2 (s1 b) < 69 ∧ s2 (s1 b) % 16 < 5) ∧ s3 (s2 (s1 b)) = pop8 b := by decide +kernel
set_option maxRecDepth 100000 in
theorem b1 : ∀ (b : Fin 256) (r : Fin 2), ((b : Nat) / 2 + 128 * r) &&& 0x55 = (b : Nat) / 2 &&& 0x55 := by decide +kernel
set_option maxRecDepth 100000 in
theorem b2 : ∀ (b : Fin 256) (r : Fin 4), ((b : Nat) / 4 + 64 * r) &&& 0x33 = (b : Nat) / 4 &&& 0x33 := by decide +kernel
set_option maxRecDepth 100000 in
theorem b3 : ∀ (b : Fin 69) (r : Fin 5), ((b : Nat) / 16 + b + 16 * r) &&& 0x0f = ((b : Nat) / 16 + b) &&& 0x0f := by decide +kernel
theorem cat3 {a b c : Nat} {x y z k : Nat} (ha : a < 256) (hb : b < 256) (hc : c < 256) (hx : x < 256) (hy : y < 256) (hz : z < 256) : (a + 256 * (b + 256 * c)) &&& (x + 256 * (y + 256 * (z + 256 * k))) = (a &&& x) + 256 * ((b &&& y) + 256 * (c &&& z)) := by
  have h := and_cat (a := c) (m := z) (b := 0) (n := k) hc hz
  rw [Nat.zero_and, Nat.mul_zero, Nat.add_zero, Nat.add_zero] at h
  rw [and_cat ha hx, and_cat hb hy, h]
theorem pop_core {x : Nat} (hx : x < 16777216) :
    let y1 := (x / 2 &&& 0x5555555555555555) + (x &&& 0x5555555555555555)
    let y2 := (y1 / 4 &&& 0x3333333333333333) + (y1 &&& 0x3333333333333333)
    let y3 := (y2 / 16 + y2) &&& 0x0f0f0f0f0f0f0f0f
    y1 < 16777216 ∧ y2 < 16777216 ∧ y3 = pop8 (x % 256) + 256 * (pop8 (x / 256 % 256) + 256 * pop8 (x / 65536)) := by
  obtain ⟨a, ha⟩ : ∃ a, a = x % 256 := ⟨_, rfl⟩
  obtain ⟨b, hb⟩ : ∃ b, b = x / 256 % 256 := ⟨_, rfl⟩
  obtain ⟨c, hc⟩ : ∃ c, c = x / 65536 := ⟨_, rfl⟩
  have a0 : a < 256 := by omega
  have b0 : b < 256 := by omega
  have c0 : c < 256 := by omega
  have e : x = a + 256 * (b + 256 * c) := by omega
  have e2 : x / 2 = (a / 2 + 128 * (b % 2)) + 256 * ((b / 2 + 128 * (c % 2)) + 256 * (c / 2)) := by omega
  have pa := byte_pop ⟨a, a0⟩
  have pb := byte_pop ⟨b, b0⟩
  have pc := byte_pop ⟨c, c0⟩
  simp only at pa pb pc
  have m1 : (0x5555555555555555 : Nat) = 0x55 + 256 * (0x55 + 256 * (0x55 + 256 * 0x5555555555)) := by decide
  have m2 : (0x3333333333333333 : Nat) = 0x33 + 256 * (0x33 + 256 * (0x33 + 256 * 0x3333333333)) := by decide
  have m3 : (0x0f0f0f0f0f0f0f0f : Nat) = 0x0f + 256 * (0x0f + 256 * (0x0f + 256 * 0x0f0f0f0f0f)) := by decide
  have y1 : (x / 2 &&& 0x5555555555555555) + (x &&& 0x5555555555555555) = s1 a + 256 * (s1 b + 256 * s1 c) := by
    rw [m1, e2, cat3 (by omega) (by omega) (by omega) (by omega) (by omega) (by omega), e, cat3 a0 b0 c0 (by omega) (by omega) (by omega)]
    have q1 := b1 ⟨a, a0⟩ ⟨b % 2, by omega⟩
    have q2 := b1 ⟨b, b0⟩ ⟨c % 2, by omega⟩
    simp only at q1 q2
    rw [q1, q2]
    unfold s1
    omega
  obtain ⟨u, hu⟩ : ∃ u, u = s1 a := ⟨_, rfl⟩
  obtain ⟨v, hv⟩ : ∃ v, v = s1 b := ⟨_, rfl⟩
  obtain ⟨w, hw⟩ : ∃ w, w = s1 c := ⟨_, rfl⟩
  rw [← hu, ← hv, ← hw] at y1
  rw [← hu] at pa
  rw [← hv] at pb
  rw [← hw] at pc
  obtain ⟨u0, pa, ra⟩ := pa
  obtain ⟨v0, pb, rb⟩ := pb
  obtain ⟨w0, pc, rc⟩ := pc
  simp only [y1]
  have e4 : (u + 256 * (v + 256 * w)) / 4 = (u / 4 + 64 * (v % 4)) + 256 * ((v / 4 + 64 * (w % 4)) + 256 * (w / 4)) := by omega
  have y2 : ((u + 256 * (v + 256 * w)) / 4 &&& 0x3333333333333333) + ((u + 256 * (v + 256 * w)) &&& 0x3333333333333333) = s2 u + 256 * (s2 v + 256 * s2 w) := by
    rw [m2, e4, cat3 (by omega) (by omega) (by omega) (by omega) (by omega) (by omega), cat3 u0 v0 w0 (by omega) (by omega) (by omega)]
    have q1 := b2 ⟨u, u0⟩ ⟨v % 4, by omega⟩
    have q2 := b2 ⟨v, v0⟩ ⟨w % 4, by omega⟩
    simp only at q1 q2
    rw [q1, q2]
    unfold s2
    omega
  obtain ⟨f, hf⟩ : ∃ f, f = s2 u := ⟨_, rfl⟩
  obtain ⟨g, hg⟩ : ∃ g, g = s2 v := ⟨_, rfl⟩
  obtain ⟨h, hh⟩ : ∃ h, h = s2 w := ⟨_, rfl⟩
  rw [← hf, ← hg, ← hh] at y2
  rw [← hf] at pa ra
  rw [← hg] at pb rb
  rw [← hh] at pc rc
  simp only [y2]
  refine ⟨by omega, by omega, ?_⟩
  have e6 : (f + 256 * (g + 256 * h)) / 16 + (f + 256 * (g + 256 * h)) = (f / 16 + f + 16 * (g % 16)) + 256 * ((g / 16 + g + 16 * (h % 16)) + 256 * (h / 16 + h)) := by omega
  have q1 := b3 ⟨f, by omega⟩ ⟨g % 16, by omega⟩
  have q2 := b3 ⟨g, by omega⟩ ⟨h % 16, by omega⟩
  simp only at q1 q2
  rw [← ha, ← hb, ← hc, ← ra, ← rb, ← rc, m3, e6, cat3 (by omega) (by omega) (by omega) (by omega) (by omega) (by omega), q1, q2]
  rfl
theorem pop8_le (b : Nat) : pop8 b ≤ 8 := by unfold pop8; omega
def pop24 (x : Nat) : Nat := pop8 (x % 256) + (pop8 (x / 256 % 256) + pop8 (x / 65536))
theorem pb0 (x : Nat) : x % 256 % 2 = x / 1 % 2 := by omega
theorem pb1 (x : Nat) : x % 256 / 2 % 2 = x / 2 % 2 := by omega
theorem pb2 (x : Nat) : x % 256 / 4 % 2 = x / 4 % 2 := by omega
theorem pb3 (x : Nat) : x % 256 / 8 % 2 = x / 8 % 2 := by omega
theorem pb4 (x : Nat) : x % 256 / 16 % 2 = x / 16 % 2 := by omega
theorem pb5 (x : Nat) : x % 256 / 32 % 2 = x / 32 % 2 := by omega
theorem pb6 (x : Nat) : x % 256 / 64 % 2 = x / 64 % 2 := by omega
theorem pb7 (x : Nat) : x % 256 / 128 % 2 = x / 128 % 2 := by omega
theorem pb8 (x : Nat) : x / 256 % 256 % 2 = x / 256 % 2 := by omega
theorem pb9 (x : Nat) : x / 256 % 256 / 2 % 2 = x / 512 % 2 := by omega
theorem pb10 (x : Nat) : x / 256 % 256 / 4 % 2 = x / 1024 % 2 := by omega
theorem pb11 (x : Nat) : x / 256 % 256 / 8 % 2 = x / 2048 % 2 := by omega
theorem pb12 (x : Nat) : x / 256 % 256 / 16 % 2 = x / 4096 % 2 := by omega
theorem pb13 (x : Nat) : x / 256 % 256 / 32 % 2 = x / 8192 % 2 := by omega
theorem pb14 (x : Nat) : x / 256 % 256 / 64 % 2 = x / 16384 % 2 := by omega
theorem pb15 (x : Nat) : x / 256 % 256 / 128 % 2 = x / 32768 % 2 := by omega
theorem pb16 (x : Nat) : x / 65536 % 2 = x / 65536 % 2 := by omega
theorem pb17 (x : Nat) : x / 65536 / 2 % 2 = x / 131072 % 2 := by omega
theorem pb18 (x : Nat) : x / 65536 / 4 % 2 = x / 262144 % 2 := by omega
theorem pb19 (x : Nat) : x / 65536 / 8 % 2 = x / 524288 % 2 := by omega
theorem pb20 (x : Nat) : x / 65536 / 16 % 2 = x / 1048576 % 2 := by omega
theorem pb21 (x : Nat) : x / 65536 / 32 % 2 = x / 2097152 % 2 := by omega
theorem pb22 (x : Nat) : x / 65536 / 64 % 2 = x / 4194304 % 2 := by omega
theorem pb23 (x : Nat) : x / 65536 / 128 % 2 = x / 8388608 % 2 := by omega
/-- The count as the slots' sum. -/
theorem pop24_sum (x : Nat) (hx : x < 16777216) : pop24 x = ((List.range 24).map fun s => x / 2 ^ s % 2).sum := by
  have e : ((List.range 24).map fun s => x / 2 ^ s % 2).sum = x / 1 % 2 + (x / 2 % 2 + (x / 4 % 2 + (x / 8 % 2 + (x / 16 % 2 + (x / 32 % 2 + (x / 64 % 2 + (x / 128 % 2 + (x / 256 % 2 + (x / 512 % 2 + (x / 1024 % 2 + (x / 2048 % 2 + (x / 4096 % 2 + (x / 8192 % 2 + (x / 16384 % 2 + (x / 32768 % 2 + (x / 65536 % 2 + (x / 131072 % 2 + (x / 262144 % 2 + (x / 524288 % 2 + (x / 1048576 % 2 + (x / 2097152 % 2 + (x / 4194304 % 2 + (x / 8388608 % 2 + 0))))))))))))))))))))))) := rfl
  rw [e]
  unfold pop24 pop8
  rw [pb0, pb1, pb2, pb3, pb4, pb5, pb6, pb7, pb8, pb9, pb10, pb11, pb12, pb13, pb14, pb15, pb16, pb17, pb18, pb19, pb20, pb21, pb22, pb23]
  clear e hx
  generalize x / 1 % 2 = t0
  generalize x / 2 % 2 = t1
  generalize x / 4 % 2 = t2
  generalize x / 8 % 2 = t3
  generalize x / 16 % 2 = t4
  generalize x / 32 % 2 = t5
  generalize x / 64 % 2 = t6
  generalize x / 128 % 2 = t7
  generalize x / 256 % 2 = t8
  generalize x / 512 % 2 = t9
  generalize x / 1024 % 2 = t10
  generalize x / 2048 % 2 = t11
  generalize x / 4096 % 2 = t12
  generalize x / 8192 % 2 = t13
  generalize x / 16384 % 2 = t14
  generalize x / 32768 % 2 = t15
  generalize x / 65536 % 2 = t16
  generalize x / 131072 % 2 = t17
  generalize x / 262144 % 2 = t18
  generalize x / 524288 % 2 = t19
  generalize x / 1048576 % 2 = t20
  generalize x / 2097152 % 2 = t21
  generalize x / 4194304 % 2 = t22
  generalize x / 8388608 % 2 = t23
  omega
end AT
