/- The masks of all fibers, the use of a spectrum, plainly: the program's and the reference's are one. -/
import Derived.Test.YtokhhjepjbhhpaaGreatQPop
import Derived.Test.YtokhhjepjbhhpaaGreatQLow
set_option linter.unusedSimpArgs false
set_option linter.unusedVariables false
namespace AT
theorem idx_in' {α : Type} {l : List α} {f : Int} (d : α) (h0 : 0 ≤ f) (h1 : f < (l.length : Int)) : idx l f = some (gd l f.toNat d) := by
  have := idx_gd (l := l) (i := f.toNat) d (by omega)
  rwa [Int.toNat_of_nonneg h0] at this
theorem most_eq (fu : Nat) (a b : Int) : spec_l1Most fu a b = some (gmax a b) := by
  unfold spec_l1Most gmax
  by_cases c1 : a > b
  · have c2 : ¬ b > a := by omega
    simp [c1, c2]
  · by_cases c2 : b > a
    · simp [c1, c2]
    · have : a = b := by omega
      simp [this]
/-! ### The masks of all fibers -/
def mark1 (b : Int) (o : List Int) (f : Int) : List Int := o.set f.toNat (bor (gd o f.toNat 0) b)
theorem marks_len (b : Int) : ∀ (fs : List Int) (o : List Int), (fs.foldl (mark1 b) o).length = o.length
  | [], o => rfl
  | f :: fs, o => by rw [List.foldl_cons, marks_len b fs]; simp [mark1]
theorem mark1_gd (b : Int) (o : List Int) (f : Int) (k : Nat) (hk : k < o.length) : gd (mark1 b o f) k 0 = if f.toNat = k then bor (gd o k 0) b else gd o k 0 := by
  unfold mark1
  generalize hv : bor (gd o f.toNat 0) b = v
  by_cases h : f.toNat = k
  · subst h
    rw [if_pos rfl, hv]
    clear hv
    unfold gd
    rw [List.getElem?_set_self hk, Option.getD_some]
  · rw [if_neg h]
    unfold gd
    rw [List.getElem?_set_ne h]
theorem has_cons (f : Int) (fs : List Int) (k : Int) : has (f :: fs) k = (f == k || has fs k) := rfl
theorem marks_gd (b : Int) (fs : List Int) : ∀ (o : List Int) (k : Nat), fs.Nodup → (∀ f ∈ fs, 0 ≤ f) → k < o.length → gd (fs.foldl (mark1 b) o) k 0 = if has fs k = true then bor (gd o k 0) b else gd o k 0 := by
  induction fs with
  | nil =>
    intro o k _ _ _
    have h : has [] (k : Int) = false := rfl
    rw [h, List.foldl_nil, if_neg Bool.false_ne_true]
  | cons f fs ih =>
    intro o k hn h0 hk
    have hn' := List.nodup_cons.1 hn
    have hf := h0 f List.mem_cons_self
    have hl : (mark1 b o f).length = o.length := by unfold mark1; rw [List.length_set]
    rw [List.foldl_cons, ih (mark1 b o f) k hn'.2 (fun x hx => h0 x (List.mem_cons_of_mem _ hx)) (by omega), mark1_gd b o f k hk, has_cons]
    by_cases h : f.toNat = k
    · have hk' : f = (k : Int) := by omega
      have h1 : has fs k = false := by
        rw [Bool.eq_false_iff]
        intro hc
        unfold has at hc
        obtain ⟨x, hx, hc⟩ := List.any_eq_true.1 hc
        rw [beq_iff_eq] at hc
        exact hn'.1 (by rw [hk', ← hc]; exact hx)
      have h2 : (f == (k : Int)) = true := by rw [beq_iff_eq]; exact hk'
      rw [h1, h2, if_pos h, if_neg Bool.false_ne_true, Bool.true_or, if_pos rfl]
    · have hk' : (f == (k : Int)) = false := by rw [beq_eq_false_iff_ne]; omega
      rw [hk', if_neg h, Bool.false_or]
theorem marks_loop {fu : Nat} (e : Light) (hb : blkOk e.Block = true) (n : Nat) (hr : ∀ f ∈ e.Route.Fibers, 0 ≤ f ∧ f < (n : Int)) (hl : e.Route.Fibers.length ≤ 2097152) : ∀ (fk i : Nat) (o : List Int), o.length = n → i ≤ e.Route.Fibers.length → e.Route.Fibers.length - i < fk →
    ∃ z, impl_fiberMasks_L2 fu e fk o i = some ((e.Route.Fibers.drop i).foldl (mark1 (bits e.Block)) o, z) := by
  intro fk
  induction fk with
  | zero => intro i _ _ _ h; omega
  | succ fk ih =>
    intro i o ho hi hk
    rw [impl_fiberMasks_L2]
    by_cases h : i < e.Route.Fibers.length
    · have h' : (i : Int) < (e.Route.Fibers.length : Int) := by omega
      obtain ⟨x, hx⟩ : ∃ x, x = e.Route.Fibers[i] := ⟨_, rfl⟩
      have hr' := hr _ (List.getElem_mem h)
      rw [← hx] at hr'
      rw [← List.getElem_cons_drop h, List.foldl_cons]
      simp only [h', decide_true, if_true, idx_in h, ← hx, Option.bind_some, idx_in' 0 hr'.1 (show x < (o.length : Int) by omega), maskOf_eq hb, w64_inc h (show (e.Route.Fibers.length : Int) ≤ 9223372036854775807 by omega)]
      exact ih (i + 1) (mark1 (bits e.Block) o x) (by simpa [mark1] using ho) h (by omega)
    · obtain rfl : i = e.Route.Fibers.length := by omega
      rw [if_neg (by simp), List.drop_length]
      exact ⟨_, rfl⟩
def markAll (L : List Light) (o : List Int) : List Int := L.foldl (fun o e => e.Route.Fibers.foldl (mark1 (bits e.Block)) o) o
theorem markAll_len : ∀ (L : List Light) (o : List Int), (markAll L o).length = o.length
  | [], o => rfl
  | e :: L, o => by
    have := markAll_len L (e.Route.Fibers.foldl (mark1 (bits e.Block)) o)
    unfold markAll at this ⊢
    rw [List.foldl_cons, this, marks_len]
theorem markAll_gd : ∀ (L : List Light) (o : List Int) (k : Nat), (∀ e ∈ L, e.Route.Fibers.Nodup ∧ ∀ f ∈ e.Route.Fibers, 0 ≤ f) → k < o.length → gd (markAll L o) k 0 = L.foldl (fun o y => if has y.Route.Fibers k = true then bor o (bits y.Block) else o) (gd o k 0)
  | [], o, k, _, _ => by unfold markAll; rw [List.foldl_nil, List.foldl_nil]
  | e :: L, o, k, h, hk => by
    have he := h e (by simp)
    have := markAll_gd L (e.Route.Fibers.foldl (mark1 (bits e.Block)) o) k (fun x hx => h x (by simp [hx])) (by rw [marks_len]; exact hk)
    unfold markAll at this ⊢
    rw [List.foldl_cons, List.foldl_cons, this, marks_gd _ _ _ _ he.1 he.2 hk]
theorem masks_loop {fu : Nat} (hfu : 2097153 ≤ fu) (p : Plan) (n : Nat) (hl : p.Lights.length ≤ 2097152) (hb : ∀ e ∈ p.Lights, blkOk e.Block = true) (hr : ∀ e ∈ p.Lights, ∀ f ∈ e.Route.Fibers, 0 ≤ f ∧ f < (n : Int)) (hs : ∀ e ∈ p.Lights, e.Route.Fibers.length ≤ 2097152) : ∀ (fk i : Nat) (o : List Int), o.length = n → i ≤ p.Lights.length → p.Lights.length - i < fk →
    ∃ z, impl_fiberMasks_L1 fu p fk o i = some (markAll (p.Lights.drop i) o, z) := by
  intro fk
  induction fk with
  | zero => intro i _ _ _ h; omega
  | succ fk ih =>
    intro i o ho hi hk
    rw [impl_fiberMasks_L1]
    by_cases h : i < p.Lights.length
    · have h' : (i : Int) < (p.Lights.length : Int) := by omega
      have hm := List.getElem_mem h
      have hsm := hs _ hm
      obtain ⟨z, hz⟩ := marks_loop (fu := fu) p.Lights[i] (hb _ hm) n (hr _ hm) hsm fu 0 o ho (by omega) (by omega)
      rw [show ((0 : Nat) : Int) = 0 from rfl, List.drop_zero] at hz
      simp only [h', decide_true, if_true, idx_in h, Option.bind_some, hz, w64_inc h (show (p.Lights.length : Int) ≤ 9223372036854775807 by omega)]
      rw [← List.getElem_cons_drop h]
      exact ih (i + 1) _ (by rw [marks_len]; exact ho) h (by omega)
    · obtain rfl : i = p.Lights.length := by omega
      rw [if_neg (by simp), List.drop_length]
      exact ⟨_, rfl⟩
def maskL (L : List Light) (n : Nat) : List Int := (List.range n).map fun f : Nat => used L (f : Int)
theorem light_in {p : Plan} (hF : PlanF p) : ∀ e ∈ p.Lights, ∀ f ∈ e.Route.Fibers, 0 ≤ f ∧ f < (p.Network.Fibers.length : Int) := fun e he => by
  obtain ⟨o, ho⟩ := (hF.light e he).route
  exact rnodes_in ho
theorem fiberMasks_eq {fu : Nat} (hfu : 2097153 ≤ fu) (p : Plan) (hB : PlanB p) (hF : PlanF p) : impl_fiberMasks fu p = some (maskL p.Lights p.Network.Fibers.length) := by
  have hn := (netF hF.net).fib
  unfold impl_fiberMasks
  rw [mk_len (show p.Network.Fibers.length ≤ 2097152 by omega), Option.bind_some]
  obtain ⟨z, hz⟩ := masks_loop hfu p p.Network.Fibers.length hB.2.1 (fun e he => (hF.light e he).blk) (light_in hF) hB.2.2 fu 0 (List.replicate p.Network.Fibers.length 0) (by simp) (by omega) (by have := hB.2.1; omega)
  rw [show ((0 : Nat) : Int) = 0 from rfl, List.drop_zero] at hz
  rw [hz, Option.bind_some]
  congr 1
  apply List.ext_getElem
  · rw [markAll_len]; simp [maskL]
  · intro k h1 h2
    rw [markAll_len, List.length_replicate] at h1
    rw [← gd_in 0, markAll_gd _ _ _ (fun e he => ⟨(hF.light e he).nodup, fun f hf => (light_in hF e he f hf).1⟩) (by simpa using h1)]
    have : gd (List.replicate p.Network.Fibers.length (0 : Int)) k 0 = 0 := by unfold gd; simp [h1]
    rw [this]
    simp [maskL, used]
theorem maskL_idx {L : List Light} {n i : Nat} (h : i < n) : idx (maskL L n) (i : Int) = some (used L (i : Int)) := by
  rw [idx_in (by simpa [maskL] using h)]
  simp [maskL]
/-! ### The number of slots -/
theorem andu_nat {a b : Nat} (ha : a < 2 ^ 64) (hb : b < 2 ^ 64) : andu64 (a : Int) (b : Int) = ((a &&& b : Nat) : Int) := by
  unfold andu64
  have e : ∀ x : Nat, x < 2 ^ 64 → (BitVec.ofInt 64 (x : Int)).toNat = x := fun x hx => by
    rw [BitVec.toNat_ofInt]
    have : ((2 ^ 64 : Nat) : Int) = 18446744073709551616 := by decide
    rw [this]
    omega
  rw [BitVec.toNat_and, e a ha, e b hb]
  have : a &&& b < 2 ^ 64 := Nat.and_lt_two_pow _ hb
  unfold wu64
  omega
theorem shrk_nat (a k : Nat) (hk : k ≤ 64) : shrk 64 (a : Int) (k : Int) = some ((a / 2 ^ k : Nat) : Int) := by
  unfold shrk
  rw [if_neg (by omega), Int.toNat_natCast, Nat.min_eq_left hk]
  congr 1
  rw [Int.fdiv_eq_ediv_of_nonneg _ (by exact Int.pow_nonneg (by omega))]
  norm_cast
theorem wu_nat {a : Nat} (h : a < 2 ^ 64) : wu64 (a : Int) = (a : Int) := wu64_in (by omega) (by omega)
theorem wu_add {a b : Nat} (h : a + b < 2 ^ 64) : wu64 ((a : Int) + (b : Int)) = ((a + b : Nat) : Int) := by
  rw [← Int.natCast_add, wu_nat h]
theorem and_sum {a b M : Nat} (ha : a < 2 ^ 64) (hb : b < 2 ^ 64) (hM : M < 2 ^ 64) (h : (a &&& M) + (b &&& M) < 2 ^ 64) : wu64 (andu64 (a : Int) (M : Int) + andu64 (b : Int) (M : Int)) = (((a &&& M) + (b &&& M) : Nat) : Int) := by
  rw [andu_nat ha hM, andu_nat hb hM, wu_add h]
theorem shrk_int (a k : Nat) (K : Int) (hK : K = (k : Int)) (hk : k ≤ 64) : shrk 64 (a : Int) K = some ((a / 2 ^ k : Nat) : Int) := by rw [hK]; exact shrk_nat a k hk
theorem ones_tail {y3 a b c : Nat} (hy3 : y3 = a + 256 * (b + 256 * c)) (la : a ≤ 8) (lb : b ≤ 8) (lc : c ≤ 8) :
    ((shrk 64 (y3 : Int) 8).bind fun q4 => (shrk 64 (wu64 ((y3 : Int) + q4)) 16).bind fun q5 => (shrk 64 (wu64 (wu64 ((y3 : Int) + q4) + q5)) 32).bind fun q6 => some (band (w64 (wu64 (wu64 (wu64 ((y3 : Int) + q4) + q5) + q6))) 127)) = some ((a + (b + c) : Nat) : Int) := by
  obtain ⟨y4, hy4⟩ : ∃ y, y = y3 + y3 / 2 ^ 8 := ⟨_, rfl⟩
  obtain ⟨y5, hy5⟩ : ∃ y, y = y4 + y4 / 2 ^ 16 := ⟨_, rfl⟩
  have h5 : y5 = (a + (b + c)) + 256 * (b + c) + 65536 * c := by omega
  have h6 : y5 / 2 ^ 32 = 0 := by omega
  have hm : y5 % 128 = a + (b + c) := by omega
  rw [shrk_int y3 8 8 rfl (by omega), Option.bind_some, wu_add (by omega), ← hy4, shrk_int y4 16 16 rfl (by omega), Option.bind_some, wu_add (by omega), ← hy5, shrk_int y5 32 32 rfl (by omega), Option.bind_some, h6, wu_add (by omega), Nat.add_zero, w64_in (by omega) (by omega)]
  have e127 : (127 : Int) = ((127 : Nat) : Int) := rfl
  rw [e127, band_eq (a := (y5 : Int)) (b := ((127 : Nat) : Int)) ⟨by omega, by omega⟩ ⟨by omega, by omega⟩, Int.toNat_natCast, Int.toNat_natCast]
  have h127 := Nat.and_two_pow_sub_one_eq_mod y5 7
  rw [show (127 : Nat) = 2 ^ 7 - 1 from rfl, h127, show (2 : Nat) ^ 7 = 128 from rfl, hm]
theorem ones_head {x y1 y2 y3 : Nat} (hx : x < 2 ^ 64) (h1 : y1 = (x / 2 &&& 0x5555555555555555) + (x &&& 0x5555555555555555)) (h2 : y2 = (y1 / 4 &&& 0x3333333333333333) + (y1 &&& 0x3333333333333333)) (h3 : y3 = (y2 / 16 + y2) &&& 0x0f0f0f0f0f0f0f0f) (l1 : y1 < 16777216) (l2 : y2 < 16777216) {M1 M2 M3 : Int} (e1 : M1 = ((0x5555555555555555 : Nat) : Int)) (e2 : M2 = ((0x3333333333333333 : Nat) : Int)) (e3 : M3 = ((0x0f0f0f0f0f0f0f0f : Nat) : Int)) {R : Type} (k : Int → Option R) :
    ((shrk 64 (x : Int) 1).bind fun q => (shrk 64 (wu64 (andu64 q M1 + andu64 (x : Int) M1)) 2).bind fun q2 => (shrk 64 (wu64 (andu64 q2 M2 + andu64 (wu64 (andu64 q M1 + andu64 (x : Int) M1)) M2)) 4).bind fun q3 => k (andu64 (wu64 (q3 + wu64 (andu64 q2 M2 + andu64 (wu64 (andu64 q M1 + andu64 (x : Int) M1)) M2))) M3)) = k (y3 : Int) := by
  subst e1 e2 e3
  have a1 : (x / 2 ^ 1 &&& 0x5555555555555555) + (x &&& 0x5555555555555555) = y1 := h1.symm
  have a2 : (y1 / 2 ^ 2 &&& 0x3333333333333333) + (y1 &&& 0x3333333333333333) = y2 := h2.symm
  have a3 : (y2 / 2 ^ 4 + y2) &&& 0x0f0f0f0f0f0f0f0f = y3 := h3.symm
  rw [shrk_int x 1 1 rfl (by omega), Option.bind_some, and_sum (by omega) (by omega) (by omega) (by rw [a1]; omega), a1, shrk_int y1 2 2 rfl (by omega), Option.bind_some, and_sum (by omega) (by omega) (by omega) (by rw [a2]; omega), a2, shrk_int y2 4 4 rfl (by omega), Option.bind_some, wu_add (by omega), andu_nat (by omega) (by omega), a3]
theorem ones_eq {fu : Nat} {m : Int} (hm : MK m) : math_bits_OnesCount fu ⟨wu64 m⟩ = some ((pop24 m.toNat : Nat) : Int) := by
  obtain ⟨x, rfl⟩ := Int.eq_ofNat_of_zero_le hm.1
  have hx : x < 16777216 := by have := hm.2; omega
  obtain ⟨p1, p2, p3⟩ := pop_core hx
  have hh := ones_head (M1 := 6148914691236517205) (M2 := 3689348814741910323) (M3 := 1085102592571150095) (show x < 2 ^ 64 by omega) rfl rfl rfl p1 p2 rfl rfl rfl (R := Int)
  have ht := ones_tail p3 (pop8_le _) (pop8_le _) (pop8_le _)
  unfold math_bits_OnesCount math_bits_OnesCount64
  rw [Int.toNat_natCast, wu_nat (show x < 2 ^ 64 by omega)]
  have h := (hh fun y => (shrk 64 y 8).bind fun q4 => (shrk 64 (wu64 (y + q4)) 16).bind fun q5 => (shrk 64 (wu64 (wu64 (y + q4) + q5)) 32).bind fun q6 => some (band (w64 (wu64 (wu64 (wu64 (y + q4) + q5) + q6))) 127)).trans ht
  rw [h]
  rfl
theorem slot_bit {m : Int} (hm : MK m) {s : Nat} (hs : s < 24) : ∃ q, shr m (s : Int) = some q ∧ band q 1 = ((m.toNat / 2 ^ s % 2 : Nat) : Int) := by
  obtain ⟨x, rfl⟩ := Int.eq_ofNat_of_zero_le hm.1
  have hx : x < 16777216 := by have := hm.2; omega
  have : shr (x : Int) (s : Int) = some ((x / 2 ^ s : Nat) : Int) := by
    unfold shr
    rw [if_neg (by omega), Int.toNat_natCast, Nat.min_eq_left (by omega)]
    congr 1
    rw [Int.fdiv_eq_ediv_of_nonneg _ (by exact Int.pow_nonneg (by omega))]
    norm_cast
  refine ⟨_, this, ?_⟩
  have hlt : x / 2 ^ s ≤ x := Nat.div_le_self _ _
  rw [Int.toNat_natCast]
  generalize x / 2 ^ s = d at hlt
  rw [band_eq (a := (d : Int)) (b := 1) ⟨by omega, by omega⟩ ⟨by omega, by omega⟩, Int.toNat_natCast]
  have := Nat.and_two_pow_sub_one_eq_mod d 1
  rw [show Int.toNat 1 = 2 ^ 1 - 1 from rfl, this]
theorem count_loop {fu : Nat} {m : Int} (hm : MK m) : ∀ (fk k s : Nat) (n : Nat), s + k = 24 → k < fk → n ≤ s → ∃ z, spec_l8Count_L1 fu m fk (n : Int) (s : Int) = some (((n + ((List.range' s k).map fun s => m.toNat / 2 ^ s % 2).sum : Nat) : Int), z) := by
  intro fk
  induction fk with
  | zero => intro k s _ _ h; omega
  | succ fk ih =>
    intro k s n hs hk hn
    rw [spec_l8Count_L1]
    cases k with
    | zero =>
      have h' : ¬ (s : Int) < 24 := by omega
      simp only [h', decide_false, Bool.false_eq_true, if_false, List.range'_zero, List.map_nil, List.sum_nil, Nat.add_zero]
      exact ⟨_, rfl⟩
    | succ k =>
      have h' : (s : Int) < 24 := by omega
      obtain ⟨q, q1, q2⟩ := slot_bit hm (show s < 24 by omega)
      have hw : w64 ((s : Int) + 1) = ((s + 1 : Nat) : Int) := by rw [w64_in (by omega) (by omega)]; omega
      obtain ⟨t, ht⟩ : ∃ t, t = m.toNat / 2 ^ s % 2 := ⟨_, rfl⟩
      have ht1 : t < 2 := by rw [ht]; exact Nat.mod_lt _ (by omega)
      rw [← ht] at q2
      have hw2 : w64 ((n : Int) + (t : Int)) = ((n + t : Nat) : Int) := by rw [w64_in (by omega) (by omega)]; omega
      have hu : wu64 (s : Int) = (s : Int) := wu64_in (by omega) (by omega)
      simp only [h', decide_true, if_true, hu, q1, Option.bind_some, q2, hw, hw2]
      obtain ⟨z, hz⟩ := ih k (s + 1) (n + t) (by omega) (by omega) (by omega)
      refine ⟨z, ?_⟩
      rw [hz, List.range'_succ, List.map_cons, List.sum_cons, ← ht, Nat.add_assoc]
theorem l8Count_eq {fu : Nat} (hfu : 2097153 ≤ fu) {m : Int} (hm : MK m) : spec_l8Count fu m = some ((pop24 m.toNat : Nat) : Int) := by
  unfold spec_l8Count
  obtain ⟨z, hz⟩ := count_loop (fu := fu) hm fu 24 0 0 (by omega) (by omega) (by omega)
  have h0 : ((0 : Nat) : Int) = 0 := rfl
  rw [h0] at hz
  have hx : m.toNat < 16777216 := by have := hm.1; have := hm.2; omega
  rw [hz, Option.bind_some, pop24_sum _ hx, Nat.zero_add, List.range_eq_range']
theorem pop24_le (x : Nat) : pop24 x ≤ 24 := by
  have := pop8_le (x % 256)
  have := pop8_le (x / 256 % 256)
  have := pop8_le (x / 65536)
  unfold pop24
  omega
/-! ### The free runs -/
def free (m : Int) (s : Nat) : Bool := decide (s < 24) && (m.toNat / 2 ^ s % 2 == 0)
theorem free_cond {fu : Nat} {m : Int} (hm : MK m) (s : Nat) (hs : s ≤ 25) : (if decide ((s : Int) < 24) = true then (shr m (s : Int)).bind fun q => some (band q 1 == 0) else some false) = some (free m s) := by
  by_cases h : s < 24
  · obtain ⟨q, q1, q2⟩ := slot_bit hm h
    have h' : (s : Int) < 24 := by omega
    simp only [h', decide_true, if_true, q1, Option.bind_some, q2, free, h, Bool.true_and]
    refine congrArg some ?_
    generalize m.toNat / 2 ^ s % 2 = d
    rw [Bool.eq_iff_iff]
    simp only [beq_iff_eq]
    omega
  · have h' : ¬ (s : Int) < 24 := by omega
    simp [h', free, h]
theorem free24 (m : Int) : free m 24 = false := by unfold free; rw [decide_eq_false (by omega), Bool.false_and]
theorem run_end {m : Int} (hm : MK m) : ∀ (k s : Nat), 24 - s = k → s ≤ 24 → ∃ e, s ≤ e ∧ e ≤ 24 ∧ free m e = false ∧ (∀ fu fk, 24 - s < fk → impl_freeRuns_L2 fu m fk (s : Int) = some (e : Int)) ∧
    (∀ fu fk (c : Nat) (out : List Block), c ≤ s → spec_l8Runs_L1 fu m (fk + (e - s)) (c : Int) (s : Int) out = spec_l8Runs_L1 fu m fk ((c + (e - s) : Nat) : Int) (e : Int) out) := by
  intro k
  induction k with
  | zero =>
    intro s h0 hs
    obtain rfl : s = 24 := by omega
    refine ⟨24, by omega, by omega, free24 m, fun fu fk hk => ?_, fun fu fk c out _ => by simp⟩
    obtain ⟨fk, rfl⟩ := Nat.exists_eq_succ_of_ne_zero (show fk ≠ 0 by omega)
    rw [impl_freeRuns_L2, free_cond (fu := fu) hm 24 (by omega), Option.bind_some, free24]
    simp
  | succ k ih =>
    intro s h0 hs
    cases hf : free m s
    · refine ⟨s, by omega, by omega, hf, fun fu fk hk => ?_, fun fu fk c out _ => by simp⟩
      obtain ⟨fk, rfl⟩ := Nat.exists_eq_succ_of_ne_zero (show fk ≠ 0 by omega)
      rw [impl_freeRuns_L2, free_cond (fu := fu) hm s (by omega), Option.bind_some, hf]
      simp
    · obtain ⟨e, e1, e2, e3, e4, e5⟩ := ih (s + 1) (by omega) (by omega)
      have hw : w64 ((s : Int) + 1) = ((s + 1 : Nat) : Int) := by rw [w64_in (by omega) (by omega)]; omega
      refine ⟨e, by omega, e2, e3, fun fu fk hk => ?_, fun fu fk c out hc => ?_⟩
      · obtain ⟨fk, rfl⟩ := Nat.exists_eq_succ_of_ne_zero (show fk ≠ 0 by omega)
        rw [impl_freeRuns_L2, free_cond (fu := fu) hm s (by omega), Option.bind_some, hf, if_pos rfl, hw]
        exact e4 fu fk (by omega)
      · have hu : wu64 (s : Int) = (s : Int) := wu64_in (by omega) (by omega)
        have hw2 : w64 ((c : Int) + 1) = ((c + 1 : Nat) : Int) := by rw [w64_in (by omega) (by omega)]; omega
        have h' : (s : Int) ≤ 24 := by omega
        rw [show fk + (e - s) = (fk + (e - (s + 1))) + 1 by omega, spec_l8Runs_L1, hu, free_cond (fu := fu) hm s (by omega), Option.bind_some, hf, hw, hw2]
        simp only [h', decide_true, if_true]
        rw [e5 fu fk (c + 1) out (by omega), show c + 1 + (e - (s + 1)) = c + (e - s) by omega]
theorem runs_main {fu : Nat} {m : Int} (hm : MK m) (hfu : 100 ≤ fu) : ∀ (k s : Nat) (out : List Block), 25 - s ≤ k → s ≤ 25 → out.length ≤ s →
    ∃ R, R.length ≤ 100 ∧ (∀ fk, 26 - s < fk → ∃ z z', spec_l8Runs_L1 fu m fk 0 (s : Int) out = some (z, z', R)) ∧ ∀ fk, 26 - s < fk → ∃ z, impl_freeRuns_L1 fu m fk out (s : Int) = some (R, z) := by
  have done : ∀ (s : Nat) (out : List Block), 24 ≤ s → s ≤ 25 → out.length ≤ s → ∃ R, R.length ≤ 100 ∧ (∀ fk, 26 - s < fk → ∃ z z', spec_l8Runs_L1 fu m fk 0 (s : Int) out = some (z, z', R)) ∧ ∀ fk, 26 - s < fk → ∃ z, impl_freeRuns_L1 fu m fk out (s : Int) = some (R, z) := by
    intro s out h1 h2 ho
    have last : ∀ fk (out : List Block), 0 < fk → ∃ z z', spec_l8Runs_L1 fu m fk 0 25 out = some (z, z', out) := fun fk out h => by
      obtain ⟨fk, rfl⟩ := Nat.exists_eq_succ_of_ne_zero (show fk ≠ 0 by omega)
      rw [spec_l8Runs_L1, if_neg (by simp)]
      exact ⟨_, _, rfl⟩
    refine ⟨out, by omega, fun fk hk => ?_, fun fk hk => ?_⟩
    · rcases Nat.lt_or_ge s 25 with h | h
      · obtain rfl : s = 24 := by omega
        obtain ⟨fk, rfl⟩ := Nat.exists_eq_succ_of_ne_zero (show fk ≠ 0 by omega)
        rw [spec_l8Runs_L1]
        have hw : w64 (((24 : Nat) : Int) + 1) = 25 := by decide
        have h1 : ¬ ((24 : Nat) : Int) < 24 := by omega
        simp only [h1, decide_false, Bool.false_eq_true, if_false, Option.bind_some, hw]
        exact last fk out (by omega)
      · obtain rfl : s = 25 := by omega
        exact last fk out (by omega)
    · obtain ⟨fk, rfl⟩ := Nat.exists_eq_succ_of_ne_zero (show fk ≠ 0 by omega)
      have h1 : ¬ (s : Int) < 24 := by omega
      rw [impl_freeRuns_L1, if_neg (by simpa using h1)]
      exact ⟨_, rfl⟩
  intro k
  induction k with
  | zero => intro s out h1 h2 ho; exact done s out (by omega) h2 ho
  | succ k ih =>
    intro s out h1 h2 ho
    rcases Nat.lt_or_ge s 24 with hs | hs
    · obtain ⟨e, e1, e2, e3, e4, e5⟩ := run_end hm (24 - s) s rfl (by omega)
      have hu : wu64 (e : Int) = (e : Int) := wu64_in (by omega) (by omega)
      have hwe : w64 ((e : Int) + 1) = ((e + 1 : Nat) : Int) := by rw [w64_in (by omega) (by omega)]; omega
      have hc : w64 ((e : Int) - (s : Int)) = ((e - s : Nat) : Int) := by rw [w64_in (by omega) (by omega)]; omega
      have hc2 : w64 ((e : Int) - ((e - s : Nat) : Int)) = (s : Int) := by rw [w64_in (by omega) (by omega)]; omega
      have he : (e : Int) ≤ 24 := by omega
      have hs' : (s : Int) < 24 := by omega
      obtain ⟨l, hl⟩ : ∃ l, l = if s < e then out ++ [(⟨(s : Int), ((e - s : Nat) : Int)⟩ : Block)] else out := ⟨_, rfl⟩
      have hll : l.length ≤ e + 1 := by
        rw [hl]
        split
        · rw [List.length_append, List.length_singleton]; omega
        · omega
      obtain ⟨R, R1, R2, R3⟩ := ih (e + 1) l (by omega) (by omega) hll
      have ha : app out [(⟨(s : Int), ((e - s : Nat) : Int)⟩ : Block)] = some (out ++ [(⟨(s : Int), ((e - s : Nat) : Int)⟩ : Block)]) := app_ok (by simp; omega)
      refine ⟨R, R1, fun fk hk => ?_, fun fk hk => ?_⟩
      · have := e5 fu (fk - (e - s)) 0 out (by omega)
        rw [show fk - (e - s) + (e - s) = fk by omega, Nat.zero_add] at this
        rw [show (0 : Int) = ((0 : Nat) : Int) from rfl, this]
        obtain ⟨fk', hfk⟩ : ∃ fk', fk - (e - s) = fk' + 1 := ⟨fk - (e - s) - 1, by omega⟩
        rw [hfk, spec_l8Runs_L1, hu, free_cond (fu := fu) hm e (by omega), Option.bind_some, e3, hc2, hwe]
        simp only [he, decide_true, if_true, Bool.false_eq_true, if_false]
        by_cases h : s < e
        · have h' : ((e - s : Nat) : Int) > 0 := by omega
          rw [if_pos h] at hl
          simp only [h', decide_true, if_true, ha, Option.bind_some, ← hl]
          exact R2 fk' (by omega)
        · have h' : ¬ ((e - s : Nat) : Int) > 0 := by omega
          rw [if_neg h] at hl
          simp only [h', decide_false, Bool.false_eq_true, if_false, ← hl]
          exact R2 fk' (by omega)
      · obtain ⟨fk, rfl⟩ := Nat.exists_eq_succ_of_ne_zero (show fk ≠ 0 by omega)
        rw [impl_freeRuns_L1, e4 fu fu (by omega)]
        simp only [hs', decide_true, if_true, Option.bind_some, hc, hwe]
        by_cases h : s < e
        · have h' : (e : Int) > (s : Int) := by omega
          rw [if_pos h] at hl
          simp only [h', decide_true, if_true, ha, Option.bind_some, ← hl]
          exact R3 fk (by omega)
        · have h' : ¬ (e : Int) > (s : Int) := by omega
          rw [if_neg h] at hl
          simp only [h', decide_false, Bool.false_eq_true, if_false, ← hl]
          exact R3 fk (by omega)
    · exact done s out hs h2 ho
theorem runs_both {fu : Nat} {m : Int} (hm : MK m) (hfu : 100 ≤ fu) : ∃ R, R.length ≤ 100 ∧ spec_l8Runs fu m = some R ∧ impl_freeRuns fu m = some R := by
  obtain ⟨R, R1, R2, R3⟩ := runs_main hm hfu 25 0 [] (by omega) (by omega) (by simp)
  obtain ⟨z, z', h1⟩ := R2 fu (by omega)
  obtain ⟨z2, h2⟩ := R3 fu (by omega)
  have h0 : ((0 : Nat) : Int) = 0 := rfl
  rw [h0] at h1 h2
  refine ⟨R, R1, ?_, ?_⟩
  · unfold spec_l8Runs; rw [h1]; rfl
  · unfold impl_freeRuns; rw [h2]; rfl
/-! ### The use of a spectrum -/
theorem longest_loop {fu : Nat} (R : List Block) (hR : R.length ≤ 100) : ∀ (fk i : Nat) (a : Int), i ≤ R.length → R.length - i < fk → ∃ z z' r, spec_l8Longest_L1 fu R fk a i = some (r, z) ∧ impl_SpectrumUse_L1 fu R fk a i = some (r, z') := by
  intro fk
  induction fk with
  | zero => intro i _ _ h; omega
  | succ fk ih =>
    intro i a hi hk
    rw [spec_l8Longest_L1, impl_SpectrumUse_L1]
    by_cases h : i < R.length
    · have h' : (i : Int) < (R.length : Int) := by omega
      simp only [h', decide_true, if_true, idx_in h, Option.bind_some, most_eq, w64_inc h (show (R.length : Int) ≤ 9223372036854775807 by omega)]
      exact ih (i + 1) _ h (by omega)
    · obtain rfl : i = R.length := by omega
      rw [if_neg (by simp), if_neg (by simp)]
      exact ⟨_, _, _, rfl, rfl⟩
theorem use_both {fu : Nat} (hfu : 2097153 ≤ fu) {m : Int} (hm : MK m) : ∃ r, spec_SpectrumUse fu m = some r ∧ impl_SpectrumUse fu m = some r := by
  unfold spec_SpectrumUse impl_SpectrumUse spec_l8Mask impl_isMask
  have hc : (decide (0 ≤ m) && decide (m ≤ 16777215)) = true := by
    have h1 := hm.1
    have h2 := hm.2
    simp only [Bool.and_eq_true, decide_eq_true_eq]
    omega
  obtain ⟨R, R1, R2, R3⟩ := runs_both (fu := fu) hm (by omega)
  obtain ⟨z, z', r, g1, g2⟩ := longest_loop (fu := fu) R R1 fu 0 0 (by omega) (by omega)
  have h0 : ((0 : Nat) : Int) = 0 := rfl
  rw [h0] at g1 g2
  have hp := pop24_le m.toNat
  simp only [l1In_eq, within_eq, hc, Option.bind_some, Bool.not_true, Bool.false_eq_true, if_false, ones_eq hm, l8Count_eq hfu hm, spec_l8Longest, R2, R3, g1, g2]
  have hw : w64 (24 - ((pop24 m.toNat : Nat) : Int)) = ((24 - pop24 m.toNat : Nat) : Int) := by rw [w64_in (by omega) (by omega)]; omega
  rw [hw]
  by_cases h : 24 - pop24 m.toNat = 0
  · rw [h]
    exact ⟨_, rfl, rfl⟩
  · have h1 : (((24 - pop24 m.toNat : Nat) : Int) == 0) = false := by rw [beq_eq_false_iff_ne]; omega
    have h2 : ((24 - pop24 m.toNat : Nat) : Int) > 0 := by omega
    have hq : ∃ q, quo (w64 (w64 (w64 (1000 * r) + ((24 - pop24 m.toNat : Nat) : Int)) - 1)) ((24 - pop24 m.toNat : Nat) : Int) = some q := by
      unfold quo
      rw [if_neg (by omega)]
      exact ⟨_, rfl⟩
    obtain ⟨q, hq⟩ := hq
    simp only [h1, h2, decide_true, if_true, Bool.false_eq_true, if_false, hq, Option.bind_some]
    exact ⟨_, rfl, rfl⟩
end AT
