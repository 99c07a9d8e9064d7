/- FnLights, plainly. -/
import Derived.Test.YtiedecncmihbeaaGreatQFragA
set_option linter.unusedSimpArgs false
set_option linter.unusedVariables false
namespace AT
/-! ### Lights that are added -/
theorem implAdd_eq {fu : Nat} (hfu : 2097153 ≤ fu) (p : Plan) (x : Light) (hB : PlanB p) (hx : x.Route.Fibers.length ≤ 2097152) : impl_AddLight fu p x = some (if planOk p = true ∧ planOk (addP p x) = true then (addP p x, true) else (zeroP, false)) := by
  unfold impl_AddLight
  rw [implPlan_eq hfu p hB]
  cases hp : planOk p
  · rfl
  · have hF := planF hp
    simp only [Option.bind_some, Bool.not_true, Bool.false_eq_true, if_false, withLight_eq hfu p _ hB hx, planIf_eq hfu _ (addP_B hB hF.short hx), true_and]
theorem specAdd_eq {fu : Nat} (hfu : 2097153 ≤ fu) (p : Plan) (x : Light) (hB : PlanB p) (hx : x.Route.Fibers.length ≤ 2097152) : spec_AddLight fu p x = some (if planOk p = true ∧ planOk (addP p x) = true then (addP p x, true) else (zeroP, false)) := by
  unfold spec_AddLight
  rw [specPlan_eq hfu p hB]
  cases hp : planOk p
  · rfl
  · have hF := planF hp
    simp only [Option.bind_some, Bool.not_true, Bool.false_eq_true, if_false, l9Put_eq hfu p _ hB hx, specPlan_eq hfu _ (addP_B hB hF.short hx), true_and]
    cases planOk (addP p x) <;> rfl
theorem del_add {p : Plan} {x : Light} (hp : planOk p = true) (hq : planOk (addP p x) = true) : delP (addP p x) (atId (addP p x).Lights x.Id) = p := by
  have hJ := (planI hq).ids
  have e3 : (addP p x).Lights = putL p.Lights x := rfl
  have hlt : insAt p.Lights x.Id < (putL p.Lights x).length := by have := insAt_le p.Lights x.Id; rw [putL_len]; omega
  have hat : atId (putL p.Lights x) x.Id = insAt p.Lights x.Id := by
    have := atId_eq (L := putL p.Lights x) hJ hlt
    rw [gd_putL] at this
    exact this
  rw [e3, hat]
  unfold delP
  rw [e3, putL_erase]
  rfl
theorem coll_comm (a b : Light) : coll a b = coll b a := by
  unfold coll
  have e : band (bits a.Block) (bits b.Block) = band (bits b.Block) (bits a.Block) := by unfold band; rw [BitVec.and_comm]
  rw [meets_comm, e]
theorem ok_coll {p : Plan} (hp : planOk p = true) {i j : Nat} (hij : i < j) (hj : j < p.Lights.length) : coll (gd p.Lights i l0) (gd p.Lights j l0) = false := by
  unfold planOk at hp
  simp only [Bool.and_eq_true, decide_eq_true_eq, Bool.not_eq_true'] at hp
  obtain ⟨-, -, h3⟩ := hp
  rw [List.any_eq_false] at h3
  have h := h3 j (List.mem_range.2 hj)
  unfold planBad at h
  simp only [Bool.or_eq_true, not_or, Bool.not_eq_true] at h
  have h4 := h.2.2
  rw [List.any_eq_false] at h4
  have := h4 (gd p.Lights i l0) (by
    rw [gd_in l0 (by omega)]
    exact List.mem_iff_getElem.2 ⟨i, by rw [List.length_take]; omega, by rw [List.getElem_take]⟩)
  simpa using this
theorem put_gd (L : List Light) (x : Light) (k : Nat) (hk : k < L.length) : ∃ j, j < (putL L x).length ∧ j ≠ insAt L x.Id ∧ gd (putL L x) j l0 = gd L k l0 := by
  have hi := insAt_le L x.Id
  have hl := putL_len L x
  by_cases h : k < insAt L x.Id
  · refine ⟨k, by omega, by omega, ?_⟩
    unfold gd putL
    rw [List.getElem?_append_left (by rw [List.length_take]; omega), List.getElem?_take_of_lt h]
  · refine ⟨k + 1, by omega, by omega, ?_⟩
    unfold gd putL
    rw [List.getElem?_append_right (by rw [List.length_take]; omega), List.length_take, Nat.min_eq_left hi, show k + 1 - insAt L x.Id = (k - insAt L x.Id) + 1 by omega, List.getElem?_cons_succ, List.getElem?_drop, show insAt L x.Id + (k - insAt L x.Id) = k by omega]
theorem add_coll {p : Plan} {x : Light} (hq : planOk (addP p x) = true) {k : Nat} (hk : k < p.Lights.length) : coll (gd p.Lights k l0) x = false := by
  obtain ⟨j, h1, h2, h3⟩ := put_gd p.Lights x k hk
  have hi : insAt p.Lights x.Id < (putL p.Lights x).length := by have := insAt_le p.Lights x.Id; rw [putL_len]; omega
  have hx := gd_putL p.Lights x
  rcases Nat.lt_or_gt_of_ne h2 with h | h
  · have := ok_coll hq (i := j) (j := insAt p.Lights x.Id) h hi
    rw [show (addP p x).Lights = putL p.Lights x from rfl, h3, hx] at this
    exact this
  · have := ok_coll hq (i := insAt p.Lights x.Id) (j := j) h h1
    rw [show (addP p x).Lights = putL p.Lights x from rfl, h3, hx] at this
    rw [coll_comm]; exact this
theorem colliding_loop {fu : Nat} (hfu : 2097153 ≤ fu) (p : Plan) (x : Light) (hF : PlanF p) (hx : LightF p.Network x) (hn : ∀ k, k < p.Lights.length → coll (gd p.Lights k l0) x = false) : ∀ (fk i : Nat), i ≤ p.Lights.length → p.Lights.length - i < fk →
    ∃ z, impl_CollidingLights_L1 fu p x fk [] i = some ([], z) := by
  have hs := hF.short
  intro fk
  induction fk with
  | zero => intro i _ h; omega
  | succ fk ih =>
    intro i hi hf
    rw [impl_CollidingLights_L1]
    by_cases h : i < p.Lights.length
    · have h' : ((i : Int) < (p.Lights.length : Int)) = True := eq_true (by omega)
      simp only [h', decide_true, if_true, idx_gd l0 h, Option.bind_some, collide_eq hfu (hF.light _ (gd_mem l0 h)) hx, hn i h, w64_inc h (show (p.Lights.length : Int) ≤ 9223372036854775807 by omega)]
      split
      · simp only [Option.bind_some, Bool.false_eq_true, if_false]
        exact ih (i + 1) h (by omega)
      · simp only [Option.bind_some, Bool.false_eq_true, if_false]
        exact ih (i + 1) h (by omega)
    · obtain rfl : i = p.Lights.length := by omega
      rw [if_neg (by simp)]
      exact ⟨_, rfl⟩
theorem light_of {n : Network} {x : Light} (h : LightF n x) : lightOk n x = true := by
  obtain ⟨o, ho⟩ := h.route
  unfold lightOk
  rw [ho, h.blk]
  have := h.id
  simp only [Option.isSome_some, Bool.and_self, Bool.and_true, Bool.and_eq_true, decide_eq_true_eq]
  exact this
/-! ### The use of a plan -/
theorem sum_map_add {α : Type} {f g h : α → Nat} : ∀ {l : List α}, (∀ s ∈ l, f s = g s + h s) → (l.map f).sum = (l.map g).sum + (l.map h).sum
  | [], _ => rfl
  | x :: l, H => by
    have h1 := sum_map_add (l := l) fun s hs => H s (List.mem_cons_of_mem _ hs)
    have h2 := H x List.mem_cons_self
    simp only [List.map_cons, List.sum_cons]
    omega
theorem bit_nat (x s : Nat) : x / 2 ^ s % 2 = (x.testBit s).toNat := by
  rw [Nat.testBit_eq_decide_div_mod_eq]
  have := Nat.mod_lt (x / 2 ^ s) (show 0 < 2 by decide)
  by_cases h : x / 2 ^ s % 2 = 1
  · simp [h]
  · have h0 : x / 2 ^ s % 2 = 0 := by omega
    simp [h0]
theorem pop_test {x : Nat} (hx : x < 16777216) : pop24 x = ((List.range 24).map fun s => (x.testBit s).toNat).sum := by
  rw [pop24_sum x hx]
  congr 1
  exact List.map_congr_left fun s _ => bit_nat x s
theorem pop_bor {a b : Int} (ha : MK a) (hb : MK b) (h : apart a b = true) : pop24 (bor a b).toNat = pop24 a.toNat + pop24 b.toNat := by
  unfold apart at h
  rw [band_eq ha hb, beq_iff_eq, Int.natCast_eq_zero] at h
  have h1 := (bor_mk ha hb).2
  have h2 := (bor_mk ha hb).1
  have e := bor_eq ha hb
  rw [e] at h1 h2 ⊢
  rw [Int.toNat_natCast, pop_test (by omega), pop_test (by have := ha.1; have := ha.2; omega), pop_test (by have := hb.1; have := hb.2; omega)]
  refine sum_map_add fun s _ => ?_
  have hs : (a.toNat &&& b.toNat).testBit s = false := by rw [h]; exact Nat.zero_testBit s
  rw [Nat.testBit_and] at hs
  rw [Nat.testBit_or]
  cases h3 : a.toNat.testBit s <;> cases h4 : b.toNat.testBit s <;> simp_all
theorem count_range (F C : Nat) : ∀ n, ((List.range n).map fun s => (decide (F ≤ s) && decide (s - F < C)).toNat).sum = min n (F + C) - min n F
  | 0 => by simp
  | n + 1 => by
    rw [List.range_succ, List.map_append, List.sum_append, count_range F C n]
    simp only [List.map_cons, List.map_nil, List.sum_cons, List.sum_nil, Nat.add_zero]
    by_cases h1 : F ≤ n
    · by_cases h2 : n - F < C
      · simp only [h1, h2, decide_true, Bool.and_self, Bool.toNat_true]; omega
      · simp only [h1, h2, decide_true, decide_false, Bool.and_false, Bool.toNat_false]; omega
    · simp only [h1, decide_false, Bool.false_and, Bool.toNat_false]; omega
theorem pop_bits {b : Block} (h : blkOk b = true) : pop24 (bits b).toNat = b.Count.toNat := by
  have h1 := bits_bound h
  rw [pop_test (by omega)]
  have e : ((List.range 24).map fun s => ((bits b).toNat.testBit s).toNat) = (List.range 24).map fun s => (decide (b.First.toNat ≤ s) && decide (s - b.First.toNat < b.Count.toNat)).toNat := List.map_congr_left fun s _ => by rw [bits_test h]
  rw [e, count_range]
  simp only [blkOk, Bool.and_eq_true, decide_eq_true_eq] at h
  omega
def cnt (f : Int) (y : Light) : Nat := if has y.Route.Fibers f = true then y.Block.Count.toNat else 0
theorem used_pop (f : Int) : ∀ (L : List Light) (o : Int), MK o → (∀ y ∈ L, blkOk y.Block = true) → L.Pairwise (fun x y => has x.Route.Fibers f = true → has y.Route.Fibers f = true → apart (bits x.Block) (bits y.Block) = true) → (∀ y ∈ L, has y.Route.Fibers f = true → apart o (bits y.Block) = true) →
    pop24 (L.foldl (fun o y => if has y.Route.Fibers f = true then bor o (bits y.Block) else o) o).toNat = pop24 o.toNat + (L.map (cnt f)).sum
  | [], o, _, _, _, _ => by simp
  | x :: L, o, ho, hb, hp, ha => by
    obtain ⟨hp1, hp2⟩ := List.pairwise_cons.1 hp
    have hbx := bits_mk (hb x List.mem_cons_self)
    rw [List.foldl_cons, List.map_cons, List.sum_cons]
    by_cases hx : has x.Route.Fibers f = true
    · rw [if_pos hx, used_pop f L _ (bor_mk ho hbx) (fun y hy => hb y (List.mem_cons_of_mem _ hy)) hp2 (fun y hy hf => ?_), pop_bor ho hbx (ha x List.mem_cons_self hx), pop_bits (hb x List.mem_cons_self)]
      · unfold cnt
        rw [if_pos hx]; omega
      · rw [apart_bor ho hbx (bits_mk (hb y (List.mem_cons_of_mem _ hy))), ha y (List.mem_cons_of_mem _ hy) hf, hp1 y hy hx hf]; rfl
    · rw [if_neg hx, used_pop f L o ho (fun y hy => hb y (List.mem_cons_of_mem _ hy)) hp2 (fun y hy hf => ha y (List.mem_cons_of_mem _ hy) hf)]
      unfold cnt
      rw [if_neg hx]; omega
theorem coll_ap (a b : Light) : coll a b = (meets a.Route.Fibers b.Route.Fibers && !apart (bits a.Block) (bits b.Block)) := by
  unfold coll apart
  rfl
theorem has_meets {a b : List Int} {f : Int} (ha : has a f = true) (hb : has b f = true) : meets a b = true := by
  unfold has at ha hb
  unfold meets
  rw [List.any_eq_true] at ha ⊢
  obtain ⟨x, hx, e⟩ := ha
  refine ⟨x, hx, ?_⟩
  rw [beq_iff_eq] at e
  subst e
  exact hb
theorem ok_pair {p : Plan} (hp : planOk p = true) (f : Int) : p.Lights.Pairwise (fun x y => has x.Route.Fibers f = true → has y.Route.Fibers f = true → apart (bits x.Block) (bits y.Block) = true) := by
  rw [List.pairwise_iff_getElem]
  intro i j hi hj hij h1 h2
  have h := ok_coll hp hij hj
  rw [gd_in l0 hi, gd_in l0 hj, coll_ap, has_meets h1 h2, Bool.true_and, Bool.not_eq_false'] at h
  exact h
theorem used_sum {p : Plan} (hp : planOk p = true) (f : Int) : pop24 (used p.Lights f).toNat = (p.Lights.map (cnt f)).sum := by
  have hF := planF hp
  unfold used
  rw [used_pop f p.Lights 0 mk0 (fun y hy => (hF.light y hy).blk) (ok_pair hp f) (fun y hy _ => apart_zero (bits_mk (hF.light y hy).blk))]
  have : pop24 (0 : Int).toNat = 0 := by decide
  omega
theorem one_of (n : Nat) (x : Int) (h0 : 0 ≤ x) (h1 : x < (n : Int)) : ((List.range n).map fun f : Nat => (x == (f : Int)).toNat).sum = 1 := by
  induction n with
  | zero => omega
  | succ n ih =>
    rw [List.range_succ, List.map_append, List.sum_append]
    simp only [List.map_cons, List.map_nil, List.sum_cons, List.sum_nil, Nat.add_zero]
    by_cases h : x = (n : Int)
    · have hz : ((List.range n).map fun f : Nat => (x == (f : Int)).toNat).sum = 0 := by
        have e : ((List.range n).map fun f : Nat => (x == (f : Int)).toNat) = (List.range n).map fun _ => 0 := List.map_congr_left fun s hs => by
          have := List.mem_range.1 hs
          have : (x == (s : Int)) = false := by rw [beq_eq_false_iff_ne]; omega
          rw [this]; rfl
        rw [e]
        clear e h h1 ih
        induction n with
        | zero => rfl
        | succ n ih => rw [List.range_succ, List.map_append, List.sum_append, ih]; rfl
      rw [hz, h]; simp
    · have hb : (x == (n : Int)) = false := by rw [beq_eq_false_iff_ne]; exact h
      rw [ih (by omega), hb]; rfl
theorem count_has (n : Nat) : ∀ (l : List Int), l.Nodup → (∀ x ∈ l, 0 ≤ x ∧ x < (n : Int)) → ((List.range n).map fun f : Nat => (has l (f : Int)).toNat).sum = l.length
  | [], _, _ => by
    induction n with
    | zero => rfl
    | succ n ih => rw [List.range_succ, List.map_append, List.sum_append, ih (by simp)]; rfl
  | x :: l, hn, hr => by
    obtain ⟨h1, h2⟩ := List.nodup_cons.1 hn
    obtain ⟨h3, h4⟩ := hr x List.mem_cons_self
    rw [sum_map_add (g := fun f : Nat => (x == (f : Int)).toNat) (h := fun f : Nat => (has l (f : Int)).toNat), one_of n x h3 h4, count_has n l h2 (fun y hy => hr y (List.mem_cons_of_mem _ hy)), List.length_cons, Nat.add_comm]
    intro f _
    show (has (x :: l) (f : Int)).toNat = _
    have e : has (x :: l) (f : Int) = (x == (f : Int) || has l (f : Int)) := rfl
    rw [e]
    cases h5 : x == (f : Int)
    · simp
    · have : has l (f : Int) = false := by
        rw [Bool.eq_false_iff]
        intro h
        unfold has at h
        rw [List.any_eq_true] at h
        obtain ⟨y, hy, e⟩ := h
        rw [beq_iff_eq] at e h5
        subst e
        exact h1 (h5 ▸ hy)
      simp [this]
theorem sum_swap (n : Nat) (g : Nat → Light → Nat) : ∀ (L : List Light), ((List.range n).map fun f => (L.map (g f)).sum).sum = (L.map fun y => ((List.range n).map fun f => g f y).sum).sum
  | [] => by
    induction n with
    | zero => rfl
    | succ n ih => rw [List.range_succ, List.map_append, List.sum_append, ih]; rfl
  | x :: L => by
    rw [List.map_cons, List.sum_cons, ← sum_swap n g L]
    exact sum_map_add fun f _ => by rw [List.map_cons, List.sum_cons]
theorem sum_mul (C : Nat) {b : Nat → Bool} : ∀ l : List Nat, (l.map fun f => if b f = true then C else 0).sum = C * (l.map fun f => (b f).toNat).sum
  | [] => rfl
  | x :: l => by
    rw [List.map_cons, List.sum_cons, List.map_cons, List.sum_cons, sum_mul C l, Nat.mul_add]
    cases b x <;> simp
theorem use_sum {p : Plan} (hp : planOk p = true) : ((maskL p.Lights p.Network.Fibers.length).map fun m => pop24 m.toNat).sum = (p.Lights.map fun y => y.Block.Count.toNat * y.Route.Fibers.length).sum := by
  have hF := planF hp
  unfold maskL
  rw [List.map_map]
  have e : ((fun m : Int => pop24 m.toNat) ∘ fun f : Nat => used p.Lights (f : Int)) = fun f : Nat => (p.Lights.map (cnt (f : Int))).sum := by
    funext f
    exact used_sum hp (f : Int)
  rw [e, sum_swap p.Network.Fibers.length (fun f => cnt (f : Int))]
  congr 1
  refine List.map_congr_left fun y hy => ?_
  have hl := hF.light y hy
  have h1 := sum_mul y.Block.Count.toNat (b := fun f : Nat => has y.Route.Fibers (f : Int)) (List.range p.Network.Fibers.length)
  rw [count_has p.Network.Fibers.length y.Route.Fibers hl.nodup (light_in hF y hy)] at h1
  exact h1
theorem sum_le {α : Type} {f : α → Nat} {B : Nat} : ∀ {l : List α}, (∀ x ∈ l, f x ≤ B) → (l.map f).sum ≤ B * l.length
  | [], _ => by simp
  | x :: l, h => by
    have h1 := sum_le (l := l) fun y hy => h y (List.mem_cons_of_mem _ hy)
    have h2 := h x List.mem_cons_self
    rw [List.map_cons, List.sum_cons, List.length_cons, Nat.mul_add]
    omega
theorem w64_plus {s : Int} {q : Nat} (h0 : 0 ≤ s) (h1 : s ≤ 1000000) (h2 : q ≤ 1000) : w64 (s + (q : Int)) = s + (q : Int) := w64_in (by omega) (by omega)
theorem use_step {s : Int} {q t : Nat} : s + (q : Int) + (t : Int) = s + ((q + t : Nat) : Int) := by omega
theorem pop_drop {l : List Int} {i : Nat} (h : i < l.length) : ((l.drop i).map fun m => pop24 m.toNat).sum = pop24 (l[i].toNat) + ((l.drop (i + 1)).map fun m => pop24 m.toNat).sum := by
  rw [← List.getElem_cons_drop h, List.map_cons, List.sum_cons]
theorem use_arith {s : Int} {q i : Nat} (h0 : 0 ≤ s) (h1 : s ≤ 24 * (i : Int)) (hq : q ≤ 24) (hi : i ≤ 1000) : 0 ≤ s + (q : Int) ∧ s + (q : Int) ≤ 24 * ((i + 1 : Nat) : Int) ∧ s ≤ 1000000 ∧ q ≤ 1000 := by omega
theorem use_loop {fu : Nat} (l : List Int) (hm : ∀ m ∈ l, MK m) (hl : l.length ≤ 1000) : ∀ (fk i : Nat) (s a : Int), i ≤ l.length → l.length - i < fk → 0 ≤ s → s ≤ 24 * (i : Int) → MK a →
    ∃ a' i', impl_PlanUse_L1 fu l fk s a i = some (s + (((l.drop i).map fun m => pop24 m.toNat).sum : Nat), a', i') ∧ MK a' := by
  intro fk
  induction fk with
  | zero => intro i _ _ _ h; omega
  | succ fk ih =>
    intro i s a hi hf h0 h1 ha
    rw [impl_PlanUse_L1]
    by_cases h : i < l.length
    · have h' : (i : Int) < (l.length : Int) := by omega
      have hf' : l.length - (i + 1) < fk := by omega
      have hll : (l.length : Int) ≤ 9223372036854775807 := by omega
      have hi' : i ≤ 1000 := by omega
      have hmi := hm _ (List.getElem_mem h)
      have ho := ones_eq (fu := fu) hmi
      rw [pop_drop h]
      have hq24 := pop24_le (l[i].toNat)
      generalize pop24 (l[i].toNat) = q at ho hq24 ⊢
      obtain ⟨k1, k2, k3, k4⟩ := use_arith h0 h1 hq24 hi'
      obtain ⟨a', i', g1, g2⟩ := ih (i + 1) (s + (q : Int)) (bor a l[i]) h hf' k1 k2 (bor_mk ha hmi)
      refine ⟨a', i', ?_, g2⟩
      rw [if_pos (decide_eq_true h'), idx_in h, Option.bind_some, ho, Option.bind_some, w64_plus h0 k3 k4, w64_inc h hll, g1, use_step]
    · obtain rfl : i = l.length := by omega
      rw [if_neg (by simp), List.drop_length]
      exact ⟨a, (l.length : Int), by simp, ha⟩
theorem w64_mul' {C N : Nat} (h : C * N ≤ 168) : w64 ((C : Int) * (N : Int)) = ((C * N : Nat) : Int) := by
  have e2 : (C : Int) * (N : Int) = ((C * N : Nat) : Int) := by push_cast; rfl
  rw [e2]
  generalize C * N = x at h
  exact w64_in (by omega) (by omega)
theorem law_loop {p : Plan} (hF : PlanF p) (G : Nat → Int → Int → Option (Int × Int)) (t : Bool) (hG : ∀ fk s i, G (fk + 1) s i = ((if decide (i < (p.Lights.length : Int)) = true then some t else some false).bind fun c => if c = true then (idx p.Lights i).bind fun e => (idx p.Lights i).bind fun e2 => G fk (w64 (s + (w64 (e.Block.Count * (e2.Route.Fibers.length : Int))))) (w64 (i + 1)) else some (s, i))) (ht : t = true) :
    ∀ (fk i : Nat) (s : Int), i ≤ p.Lights.length → p.Lights.length - i < fk → 0 ≤ s → s ≤ 168 * (i : Int) → ∃ i', G fk s i = some (s + (((p.Lights.drop i).map fun y => y.Block.Count.toNat * y.Route.Fibers.length).sum : Nat), i') := by
  subst ht
  have hs := hF.short
  intro fk
  induction fk with
  | zero => intro i _ _ h; omega
  | succ fk ih =>
    intro i s hi hf h0 h1
    rw [hG]
    by_cases h : i < p.Lights.length
    · have h' : ((i : Int) < (p.Lights.length : Int)) = True := eq_true (by omega)
      have hx := hF.light _ (List.getElem_mem h)
      have hb := hx.blk
      have hsh := hx.short
      simp only [blkOk, Bool.and_eq_true, decide_eq_true_eq] at hb
      obtain ⟨C, hC⟩ : ∃ C : Nat, C = p.Lights[i].Block.Count.toNat := ⟨_, rfl⟩
      obtain ⟨N, hN⟩ : ∃ N : Nat, N = p.Lights[i].Route.Fibers.length := ⟨_, rfl⟩
      have hCi : p.Lights[i].Block.Count = (C : Int) := by omega
      have hC24 : C ≤ 24 := by omega
      have hN7 : N ≤ 7 := by omega
      have hCN : C * N ≤ 168 := Nat.mul_le_mul hC24 hN7
      have hsum : ((p.Lights.drop i).map fun y => y.Block.Count.toNat * y.Route.Fibers.length).sum = C * N + ((p.Lights.drop (i + 1)).map fun y => y.Block.Count.toNat * y.Route.Fibers.length).sum := by
        rw [← List.getElem_cons_drop h, List.map_cons, List.sum_cons, hC, hN]
      have e3 := w64_mul' hCN
      obtain ⟨x, hxe⟩ : ∃ x, x = C * N := ⟨_, rfl⟩
      rw [← hxe] at hCN hsum e3
      obtain ⟨t, ht⟩ : ∃ t, t = ((p.Lights.drop (i + 1)).map fun y => y.Block.Count.toNat * y.Route.Fibers.length).sum := ⟨_, rfl⟩
      have k1 : 0 ≤ s + (x : Int) := by clear e3; omega
      have k2 : s + (x : Int) ≤ 168 * ((i + 1 : Nat) : Int) := by clear e3; omega
      obtain ⟨i', g⟩ := ih (i + 1) (s + (x : Int)) h (by clear e3; omega) k1 k2
      rw [← ht] at hsum g
      have k3 : s ≤ 1000000 := by clear e3; omega
      have k4 : x ≤ 1000 := by clear e3; omega
      refine ⟨i', ?_⟩
      rw [hsum]
      simp only [h', decide_true, if_true, idx_in h, Option.bind_some, hCi, ← hN, e3, w64_plus h0 k3 k4, w64_inc h (show (p.Lights.length : Int) ≤ 9223372036854775807 by clear e3; omega)]
      rw [g, use_step]
    · obtain rfl : i = p.Lights.length := by omega
      have h' : ((p.Lights.length : Int) < (p.Lights.length : Int)) = False := eq_false (by omega)
      simp only [h', decide_false, Bool.false_eq_true, if_false, Option.bind_some, List.drop_length, List.map_nil, List.sum_nil]
      exact ⟨(p.Lights.length : Int), by simp⟩
theorem planUse_eq {fu : Nat} (hfu : 2097153 ≤ fu) (p : Plan) (hB : PlanB p) : ∃ all, impl_PlanUse fu p = some (if planOk p = true then ((((p.Lights.map fun y => y.Block.Count.toNat * y.Route.Fibers.length).sum : Nat) : Int), all, true) else (0, 0, false)) := by
  unfold impl_PlanUse
  rw [implPlan_eq hfu p hB]
  cases hp : planOk p
  · exact ⟨0, rfl⟩
  · have hF := planF hp
    have hn := (netF hF.net).fib
    simp only [Option.bind_some, Bool.not_true, Bool.false_eq_true, if_false, if_true, fiberMasks_eq hfu p hB hF]
    have hm : ∀ m ∈ maskL p.Lights p.Network.Fibers.length, MK m := fun m hm => by
      unfold maskL at hm
      obtain ⟨f, -, rfl⟩ := List.mem_map.1 hm
      exact used_mk (fun y hy => (hF.light y hy).blk) _
    have hl : (maskL p.Lights p.Network.Fibers.length).length ≤ 1000 := by simp [maskL]; omega
    obtain ⟨a', i', g1, g2⟩ := use_loop (fu := fu) _ hm hl fu 0 0 0 (by omega) (by omega) (by omega) (by omega) mk0
    rw [Int.ofNat_zero] at g1
    rw [g1, List.drop_zero, use_sum hp, Option.bind_some]
    simp only [ones_eq g2, Option.bind_some, Int.zero_add]
    exact ⟨_, rfl⟩
theorem FnLights_true (x0 : List By) (o0 : ok_ByS x0) : ∃ fu, laws_FnLights fu x0 = some true := by
  obtain ⟨fu, hfu⟩ : ∃ fu, 2097153 ≤ fu := ⟨2097153, Nat.le_refl _⟩
  refine ⟨fu, ?_⟩
  unfold laws_FnLights laws_vBig
  by_cases hb : (x0.length : Int) > 65536
  · simp only [hb, decide_true, Option.bind_some, if_true]
  simp only [hb, decide_false, Option.bind_some, Bool.false_eq_true, if_false]
  have hc : Cur ⟨x0, 0, ⟨0⟩⟩ 0 := start_cur o0.1 (by omega)
  obtain ⟨p, x, g1, h1, h2⟩ := drawLight hfu hc
  have hB := h1.B
  have hx : x.Route.Fibers.length ≤ 2097152 := by omega
  have d1 : spec_DrawAddLight fu x0 = some (p, x) := by unfold spec_DrawAddLight; rw [g1]; rfl
  obtain ⟨all, hu⟩ := planUse_eq hfu p hB
  have hv : spec_IsValidPlan fu p = some (planOk p) := by unfold spec_IsValidPlan; rw [specPlan_eq hfu p hB]; rfl
  -- the second half, which stands twice
  have last : ∀ G : Int × Int × Bool → Nat → Int → Int → Option (Int × Int), (∀ y fk s i, G y (fk + 1) s i = ((if decide (i < (p.Lights.length : Int)) = true then some y.2.2 else some false).bind fun c => if c = true then (idx p.Lights i).bind fun e => (idx p.Lights i).bind fun e2 => G y fk (w64 (s + (w64 (e.Block.Count * (e2.Route.Fibers.length : Int))))) (w64 (i + 1)) else some (s, i))) →
      ((impl_PlanUse fu p).bind fun y13 => (G y13 fu 0 0).bind fun z2 => ((spec_IsValidPlan fu p).bind fun y14 => if (y13.2.2 == y14) = true then some (y13.1 == z2.1) else some false).bind fun c25 => some c25) = some true := by
    intro G hG
    rw [hu, hv, Option.bind_some]
    obtain ⟨fk, rfl⟩ : ∃ fk, fu = fk + 1 := ⟨fu - 1, by omega⟩
    cases hp : planOk p
    · simp only [Bool.false_eq_true, if_false]
      rw [hG]
      simp only [Bool.false_eq_true, if_false]
      split <;> simp
    · have hF := planF hp
      have hs := hF.short
      obtain ⟨i', g⟩ := law_loop hF (G ((((p.Lights.map fun y => y.Block.Count.toNat * y.Route.Fibers.length).sum : Nat) : Int), all, true)) true (hG _) rfl (fk + 1) 0 0 (by omega) (by omega) (by omega) (by omega)
      rw [Int.ofNat_zero] at g
      simp only [if_true, g, Option.bind_some, List.drop_zero, Int.zero_add, beq_self_eq_true]
  have l1 := last (laws_FnLights_L1 fu (p, x)) (fun y fk s i => by rw [laws_FnLights_L1])
  have l2 := last (laws_FnLights_L2 fu (p, x)) (fun y fk s i => by rw [laws_FnLights_L2])
  simp only [d1, Option.bind_some, implAdd_eq hfu p x hB hx, specAdd_eq hfu p x hB hx, implPlan_eq hfu p hB, hv, bne_self_eq_false, Bool.false_eq_true, if_false]
  rw [hv] at l1 l2
  by_cases hk : planOk p = true ∧ planOk (addP p x) = true
  · obtain ⟨hp, hq⟩ := hk
    have hF := planF hp
    have hFq := planF hq
    have hqB := addP_B hB hF.short hx
    have hfx : LightF p.Network x := hFq.light x (putL_mem.2 (.inl rfl))
    have hrem : impl_RemoveLight fu (addP p x) x.Id = some (p, true) := by
      unfold impl_RemoveLight
      have hh := has_put p x
      rw [lightNumber_eq hfu (addP p x) x.Id hqB, if_pos ⟨hq, hh⟩]
      simp only [Option.bind_some, Bool.not_true, Bool.false_eq_true, if_false, withoutLight_eq hfu (addP p x) hqB (atId_lt hh), del_add hp hq]
    have hcol : impl_CollidingLights fu p x = some ([], true) := by
      unfold impl_CollidingLights
      obtain ⟨z, hz⟩ := colliding_loop hfu p x hF hfx (fun k hk => add_coll hq hk) fu 0 (by omega) (by have := hF.short; omega)
      rw [Int.ofNat_zero] at hz
      simp only [implPlan_eq hfu p hB, hp, Option.bind_some, Bool.not_true, Bool.false_eq_true, if_false, isLight_eq hfu _ x hB.1 hx, light_of hfx, hz]
    simp only [hp, hq, and_self, if_true, bne_self_eq_false, Bool.false_eq_true, if_false, Option.bind_some, hrem, hcol, Bool.not_true, vPlans_self hfu p hB, implPlan_eq hfu _ hqB, List.length_nil, Int.ofNat_zero]
    simp only [hp] at l1
    exact l1
  · simp only [hk, if_false, bne_self_eq_false, Bool.false_eq_true, Option.bind_some]
    exact l2
end AT
