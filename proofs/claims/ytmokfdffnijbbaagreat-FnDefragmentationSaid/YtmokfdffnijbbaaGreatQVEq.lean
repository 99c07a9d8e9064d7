/- Defragmentation keeps a plan valid and never raises a light. -/
import Derived.Test.YtmokfdffnijbbaaGreatQPlan2
import Derived.Test.YtmokfdffnijbbaaGreatOk
import Derived.Test.YtmokfdffnijbbaaGreatAtL
set_option linter.unusedSimpArgs false
set_option linter.unusedVariables false
namespace AT
structure Dn (p q : Plan) : Prop where
  net : q.Network = p.Network
  len : q.Lights.length = p.Lights.length
  at_ : ∀ i, i < p.Lights.length → (gd q.Lights i l0).Id = (gd p.Lights i l0).Id ∧ (gd q.Lights i l0).Route = (gd p.Lights i l0).Route ∧ (gd q.Lights i l0).Block.Count = (gd p.Lights i l0).Block.Count ∧ (gd q.Lights i l0).Block.First ≤ (gd p.Lights i l0).Block.First
theorem Dn.refl (p : Plan) : Dn p p := ⟨rfl, rfl, fun i _ => ⟨rfl, rfl, rfl, Int.le_refl _⟩⟩
theorem Dn.setF {p q : Plan} (h : Dn p q) {j : Nat} (hj : j < q.Lights.length) {r : Int} (hr : r ≤ (gd q.Lights j l0).Block.First) : Dn p (setF q j r) := by
  refine ⟨h.net, by rw [← h.len]; simp [AT.setF], fun i hi => ?_⟩
  obtain ⟨a1, a2, a3, a4⟩ := h.at_ i hi
  show (gd (q.Lights.set j _) i l0).Id = _ ∧ _
  rw [show (AT.setF q j r).Lights = q.Lights.set j ⟨(gd q.Lights j l0).Id, (gd q.Lights j l0).Route, ⟨r, (gd q.Lights j l0).Block.Count⟩⟩ from rfl, gd_set]
  split
  · rename_i hc
    obtain ⟨rfl, -⟩ := hc
    exact ⟨a1, a2, a3, by simp only; omega⟩
  · exact ⟨a1, a2, a3, a4⟩
theorem apart_comm2 (a b : Int) : apart a b = apart b a := by
  unfold apart band
  rw [BitVec.and_comm]
theorem coll_comm (a b : Light) : coll a b = coll b a := by
  rw [coll_apart, coll_apart, meets_comm, apart_comm2 (bits a.Block)]
theorem setF_ok {p : Plan} (hp : planOk p = true) {j : Nat} (hj : j < p.Lights.length) {hit : Bool} {r : Int} (h0 : 0 ≤ r) (h1 : r < (gd p.Lights j l0).Block.First) (hm : mayLow (p.Lights.eraseIdx j) (gd p.Lights j l0) hit r) : planOk (setF p j r) = true := by
  obtain ⟨n1, n2, n3, n4⟩ := planOk_iff.1 hp
  have hI := planI hp
  have hx := n3 _ (gd_mem l0 hj)
  obtain ⟨y, hy⟩ : ∃ y, y = (⟨(gd p.Lights j l0).Id, (gd p.Lights j l0).Route, ⟨r, (gd p.Lights j l0).Block.Count⟩⟩ : Light) := ⟨_, rfl⟩
  have hset : (setF p j r).Lights = p.Lights.set j y := by rw [hy]; rfl
  have hyc : ∀ i, i < p.Lights.length → i ≠ j → coll (gd p.Lights i l0) y = false := by
    intro i hi hij
    have hid : (gd p.Lights i l0).Id ≠ (gd p.Lights j l0).Id := by
      rcases Nat.lt_or_gt_of_ne hij with h | h
      · have := hI.ids i j h hj; omega
      · have := hI.ids j i h hi; omega
    have hmem := (erase_mem hj hI.ids (gd p.Lights i l0)).2 ⟨gd_mem l0 hi, hid⟩
    have := hm.2 _ hmem
    rw [coll_apart, hy]
    simp only
    cases hq : meets (gd p.Lights i l0).Route.Fibers (gd p.Lights j l0).Route.Fibers
    · rfl
    · rw [Bool.true_and, Bool.not_eq_false']
      rcases Bool.eq_false_or_eq_true (apart (bits (gd p.Lights i l0).Block) (bits ⟨r, (gd p.Lights j l0).Block.Count⟩)) with h | h
      · exact h
      · exact (this ⟨hq, h⟩).elim
  refine planOk_iff.2 ⟨n1, by rw [hset, List.length_set]; exact n2, fun x hx' => ?_, ?_⟩
  · rw [hset] at hx'
    rcases List.mem_or_eq_of_mem_set hx' with h | h
    · exact n3 x h
    · subst h
      rw [hy]
      unfold lightOk at hx ⊢
      simp only [Bool.and_eq_true, decide_eq_true_eq] at hx ⊢
      refine ⟨hx.1, hx.2.1, ?_⟩
      have hb := hx.2.2
      unfold blkOk at hb ⊢
      simp only [Bool.and_eq_true, decide_eq_true_eq] at hb ⊢
      omega
  · rw [hset]
    rw [List.pairwise_iff_getElem] at n4 ⊢
    intro a b ha hb hab
    rw [List.length_set] at ha hb
    have q := n4 a b ha hb hab
    have yid : y.Id = p.Lights[j].Id := by rw [hy, gd_in l0 hj]
    rw [List.getElem_set, List.getElem_set]
    by_cases e1 : j = a
    · subst e1
      have e2 : ¬ j = b := by omega
      rw [if_pos rfl, if_neg e2]
      refine ⟨by rw [yid]; exact q.1, ?_⟩
      rw [coll_comm]
      have := hyc b hb (by omega)
      rwa [gd_in l0 hb] at this
    · rw [if_neg e1]
      by_cases e2 : j = b
      · subst e2
        rw [if_pos rfl]
        refine ⟨by rw [yid]; exact q.1, ?_⟩
        have := hyc a ha (by omega)
        rwa [gd_in l0 ha] at this
      · rw [if_neg e2]; exact q
theorem step_valid {fu : Nat} (hfu : 2097153 ≤ fu) (p : Plan) (hB : PlanB p) (hp : planOk p = true) (hit : Bool) : ∃ w, spec_l21Step fu p hit = some w ∧ impl_lowered fu p hit = some w ∧ (w = (p, 0) ∨ ∃ j r, j < p.Lights.length ∧ 0 ≤ r ∧ r < (gd p.Lights j l0).Block.First ∧ w = (setF p j r, (gd p.Lights j l0).Id) ∧ planOk (setF p j r) = true) := by
  have hG := planG hB hp
  obtain ⟨w, w1, w2, -⟩ := step_both hfu p hG hit
  refine ⟨w, w1, w2, ?_⟩
  have hs := hG.f.short
  have key : ∀ (fk i : Nat) (o : Out Int (Plan × Int)), i ≤ p.Lights.length → p.Lights.length - i < fk → impl_lowered_L1 fu p hit p fk i = some o →
      (∃ z, o = .next z) ∨ ∃ j r, j < p.Lights.length ∧ 0 ≤ r ∧ r < (gd p.Lights j l0).Block.First ∧ o = .ret (setF p j r, (gd p.Lights j l0).Id) ∧ planOk (setF p j r) = true := by
    intro fk
    induction fk with
    | zero => intro i _ _ h; omega
    | succ fk ih =>
      intro i o hi hk ho
      rw [impl_lowered_L1] at ho
      by_cases h : i < p.Lights.length
      · have h' : (i : Int) < (p.Lights.length : Int) := by omega
        obtain ⟨r, r1, r2, r3, r4⟩ := implLow hfu p hG.f hG.i h hit
        simp only [h', decide_true, if_true, idx_gd l0 h, Option.bind_some, r1, w64_inc h (show (p.Lights.length : Int) ≤ 9223372036854775807 by omega), Int.toNat_natCast] at ho
        by_cases hr : r < (gd p.Lights i l0).Block.First
        · simp only [hr, decide_true, if_true] at ho
          injection ho with ho
          right
          refine ⟨i, r, h, r3, hr, ho.symm, ?_⟩
          rcases r2 with ⟨-, -, hP, -⟩ | ⟨he, -⟩
          · exact setF_ok hp h r3 hr hP
          · omega
        · simp only [hr, decide_false, Bool.false_eq_true, if_false] at ho
          exact ih (i + 1) o h (by omega) ho
      · obtain rfl : i = p.Lights.length := by omega
        rw [if_neg (by simp)] at ho
        injection ho with ho
        exact .inl ⟨_, ho.symm⟩
  unfold impl_lowered at w2
  rw [copyPlan_eq hfu p hB, Option.bind_some] at w2
  obtain ⟨o, o1, o2⟩ := bind_some w2
  rcases key fu 0 o (by omega) (by omega) o1 with ⟨z, rfl⟩ | ⟨j, r, h1, h2, h3, rfl, h5⟩
  · injection o2 with o2
    exact .inl o2.symm
  · injection o2 with o2
    exact .inr ⟨j, r, h1, h2, h3, o2.symm, h5⟩
theorem defrag_valid {fu : Nat} (hfu : 2097153 ≤ fu) (hit : Bool) (L : Nat) (hL : L ≤ 60) (p0 : Plan) : ∀ (fk i : Nat) (p : Plan) (ids : List Int), i ≤ L → L - i < fk → PlanB p → planOk p = true → Dn p0 p → ids.length = i →
    ∃ q ids' z z', spec_Defragment_L1 fu hit fk ((L - i : Nat) : Int) ids p.Network.Nodes p.Network.Fibers p.Lights = some (z, ids', q.Network.Nodes, q.Network.Fibers, q.Lights) ∧
      impl_Defragment_L1 fu hit (L : Int) fk ids (i : Int) p.Network.Nodes p.Network.Fibers p.Lights = some (ids', z', q.Network.Nodes, q.Network.Fibers, q.Lights) ∧ PlanB q ∧ planOk q = true ∧ Dn p0 q ∧ ids'.length ≤ 60 ∧ (ids'.length < L → impl_lowered fu q hit = some (q, 0)) := by
  intro fk
  induction fk with
  | zero => intro i _ _ _ h; omega
  | succ fk ih =>
    intro i p ids hi hk hB hp hD hl
    rw [spec_Defragment_L1, impl_Defragment_L1]
    by_cases h : i < L
    · have h1 : ((L - i : Nat) : Int) > 0 := by omega
      have h2 : (i : Int) < (L : Int) := by omega
      obtain ⟨w, g1, g2, g3⟩ := step_valid hfu p hB hp hit
      have g1' : spec_l21Step fu ({ Network := ({ Nodes := p.Network.Nodes, Fibers := p.Network.Fibers } : Network), Lights := p.Lights } : Plan) hit = some w := g1
      have g2' : impl_lowered fu ({ Network := ({ Nodes := p.Network.Nodes, Fibers := p.Network.Fibers } : Network), Lights := p.Lights } : Plan) hit = some w := g2
      simp only [h1, h2, decide_true, if_true, g1', g2', Option.bind_some]
      rcases g3 with rfl | ⟨j, r, hj, r0, r1, rfl, hok⟩
      · simp only [beq_self_eq_true, if_true]
        exact ⟨p, ids, _, _, rfl, rfl, hB, hp, hD, by omega, fun _ => g2⟩
      · have hid := ((planF hp).light _ (gd_mem l0 hj)).id
        have hz : ((gd p.Lights j l0).Id == 0) = false := by
          rw [beq_eq_false_iff_ne]
          omega
        have hlen : ids.length + [(gd p.Lights j l0).Id].length ≤ 1099511627776 := by rw [List.length_singleton]; omega
        have ha := app_ok hlen
        have hw1 : w64 (((L - i : Nat) : Int) - 1) = ((L - (i + 1) : Nat) : Int) := by rw [w64_in (by omega) (by omega)]; omega
        have hw2 : w64 ((i : Int) + 1) = ((i + 1 : Nat) : Int) := by rw [w64_in (by omega) (by omega)]; omega
        simp only [hz, Bool.false_eq_true, if_false]
        rw [ha, Option.bind_some, Option.bind_some, hw1, hw2]
        clear hw1 hw2 ha g1 g2 g1' g2' hz
        exact ih (i + 1) (setF p j r) (ids ++ [(gd p.Lights j l0).Id]) h (by omega) (setF_G (planG hB hp) hj r0 (by omega)).b hok (hD.setF hj (by omega)) (by rw [List.length_append, List.length_singleton]; omega)
    · obtain rfl : i = L := by omega
      have h1 : ¬ ((i - i : Nat) : Int) > 0 := by omega
      have h2 : ¬ (i : Int) < (i : Int) := by omega
      simp only [h1, h2, decide_false, Bool.false_eq_true, if_false]
      exact ⟨p, ids, _, _, rfl, rfl, hB, hp, hD, by omega, fun h => by omega⟩
end AT

namespace AT
def r0 : Request := ⟨⟨0, []⟩, 0⟩
def b0 : Block := ⟨0, 0⟩
def reqBad (n : Network) (x : Request) : Bool := !(rnodes n x.Route).isSome || !(decide (1 ≤ x.Count) && decide (x.Count ≤ 24))
def reqsOk (n : Network) (l : List Request) : Bool := netOk n && (decide (l.length ≤ 7) && !l.any (reqBad n))
def ReqB (l : List Request) : Prop := l.length ≤ 2097152 ∧ ∀ x ∈ l, x.Route.Fibers.length ≤ 2097152
theorem implReqs_eq {fu : Nat} (hfu : 2097153 ≤ fu) (n : Network) (l : List Request) (hB : NetB n) (hl : ReqB l) : impl_IsValidRequests fu n l = some (reqsOk n l) := by
  have hL := hl.1
  unfold impl_IsValidRequests reqsOk
  rw [implNet_eq hfu n hB]
  cases hv : netOk n
  · rfl
  simp only [Option.bind_some, if_true, Bool.true_and]
  by_cases h7 : l.length ≤ 7
  · have h7' : (l.length : Int) ≤ 7 := by omega
    simp only [h7, h7', decide_true, if_true, Bool.true_and]
    unfold slices_ContainsFunc_impl_Request_impl_Request_of_IsValidRequests_c1 slices_IndexFunc_impl_Request_impl_Request_of_IsValidRequests_c1
    rw [scan_all (l := l) (G := slices_IndexFunc_impl_Request_impl_Request_of_IsValidRequests_c1_L1 fu l n) (reqBad n) (fun i => (i : Int)) (by omega)
      (fun fk i hi => by
        have h' : (i : Int) < (l.length : Int) := by omega
        rw [slices_IndexFunc_impl_Request_impl_Request_of_IsValidRequests_c1_L1]
        simp only [h', decide_true, if_true, idx_in hi, Option.bind_some, impl_IsValidRequests_c1, visited_eq hfu n l[i].Route hB.2 hB.1.1 (hl.2 _ (List.getElem_mem hi)), within_eq]
        cases hq : rnodes n l[i].Route <;> simp [reqBad, hq])
      (fun fk => by rw [slices_IndexFunc_impl_Request_impl_Request_of_IsValidRequests_c1_L1, if_neg (by simp)]) fu (by omega)]
    cases l.any (reqBad n) <;> simp [Out.on]
  · have h7' : ¬ ((l.length : Int) ≤ 7) := by omega
    simp only [h7, h7', decide_false, Bool.false_eq_true, if_false, Bool.false_and, Option.bind_some]
structure ReqF (l : List Request) : Prop where
  len : l.length ≤ 7
  each : ∀ x ∈ l, x.Route.Fibers.Nodup ∧ x.Route.Fibers.length ≤ 8 ∧ 1 ≤ x.Count ∧ x.Count ≤ 24
theorem reqF {n : Network} {l : List Request} (h : reqsOk n l = true) : ReqF l := by
  unfold reqsOk at h
  simp only [Bool.and_eq_true, decide_eq_true_eq, Bool.not_eq_true'] at h
  obtain ⟨h1, h2, h3⟩ := h
  refine ⟨h2, fun x hx => ?_⟩
  rw [List.any_eq_false] at h3
  have h4 := h3 x hx
  unfold reqBad at h4
  cases ho : rnodes n x.Route with
  | none => rw [ho] at h4; simp at h4
  | some o =>
    rw [ho] at h4
    simp at h4
    obtain ⟨-, -, f1, f2, -⟩ := rnodes_facts (netF h1) ho
    exact ⟨f1, by omega, h4.1, h4.2⟩
theorem ReqF.at_ {l : List Request} (h : ReqF l) {i : Nat} (hi : i < l.length) : (gd l i r0).Route.Fibers.Nodup ∧ (gd l i r0).Route.Fibers.length ≤ 8 ∧ 1 ≤ (gd l i r0).Count ∧ (gd l i r0).Count ≤ 24 := by
  rw [gd_in r0 hi]; exact h.each _ (List.getElem_mem hi)
def cf (a b : Request) : Bool := meets a.Route.Fibers b.Route.Fibers
theorem implCf_eq {fu : Nat} (hfu : 2097153 ≤ fu) {l : List Request} (h : ReqF l) {i k : Nat} (hi : i < l.length) (hk : k < l.length) : impl_conflict fu (gd l i r0) (gd l k r0) = some (cf (gd l i r0) (gd l k r0)) := by
  have h1 := h.at_ hi
  have h2 := h.at_ hk
  unfold impl_conflict
  obtain ⟨c, hc, hd⟩ := common_ok (fu := fu) (gd l i r0).Route.Fibers (gd l k r0).Route.Fibers (by omega) h1.1 (by omega) hfu
  rw [hc, Option.bind_some, hd]
  rfl
end AT

namespace AT
def bt (s i : Nat) : Bool := decide (s / 2 ^ i % 2 = 1)
theorem shr_nat (s i : Nat) (hi : i ≤ 64) : shr (s : Int) (i : Int) = some ((s / 2 ^ i : Nat) : Int) := by
  unfold shr
  rw [if_neg (by omega), Int.toNat_natCast, Nat.min_eq_left hi, Int.fdiv_eq_ediv_of_nonneg _ (Int.pow_nonneg (by omega))]
  congr 1
theorem band1 {q : Nat} (h : q < 16777216) : band (q : Int) 1 = ((q % 2 : Nat) : Int) := by
  rw [band_eq ⟨by omega, by omega⟩ ⟨by omega, by omega⟩]
  congr 1
  rw [Int.toNat_natCast]
  exact Nat.and_one_is_mod q
theorem bit_eq {s i : Nat} (hs : s < 16777216) (hi : i ≤ 64) : (band ((s / 2 ^ i : Nat) : Int) 1 == 1) = bt s i := by
  rw [band1 (Nat.lt_of_le_of_lt (Nat.div_le_self _ _) hs)]
  unfold bt
  rw [Bool.eq_iff_iff, beq_iff_eq, decide_eq_true_eq]
  omega
theorem shl1 {n : Nat} (h : n ≤ 7) : shl 1 (n : Int) = some ((2 ^ n : Nat) : Int) := by
  have : ∀ n : Fin 8, shl 1 ((n : Nat) : Int) = some ((2 ^ (n : Nat) : Nat) : Int) := by decide +kernel
  exact this ⟨n, by omega⟩
theorem pow7 {n : Nat} (h : n ≤ 7) : 1 ≤ 2 ^ n ∧ 2 ^ n ≤ 128 := by
  have : ∀ n : Fin 8, 1 ≤ 2 ^ (n : Nat) ∧ 2 ^ (n : Nat) ≤ 128 := by decide
  exact this ⟨n, by omega⟩
def sumTo (l : List Request) (s : Nat) : Nat → Int
  | 0 => 0
  | i + 1 => sumTo l s i + if bt s i = true then (gd l i r0).Count else 0
theorem sumTo_in {l : List Request} (h : ReqF l) (s : Nat) : ∀ {i : Nat}, i ≤ l.length → 0 ≤ sumTo l s i ∧ sumTo l s i ≤ 24 * (i : Int)
  | 0, _ => ⟨by simp [sumTo], by simp [sumTo]⟩
  | i + 1, hi => by
    have := sumTo_in h s (show i ≤ l.length by omega)
    have := h.at_ (show i < l.length by omega)
    rw [sumTo]
    split <;> omega
def badI (l : List Request) (s i : Nat) : Bool := bt s i && (List.range i).any fun k => bt s k && !cf (gd l i r0) (gd l k r0)
def clq (l : List Request) (s : Nat) : Bool := !(List.range l.length).any (badI l s)
theorem sum_loop {fu : Nat} {l : List Request} (h : ReqF l) {s : Nat} (hs : s < 16777216) : ∀ (fk i : Nat), i ≤ l.length → l.length - i < fk → impl_cliqueBound_L2 fu l s fk (sumTo l s i) i = some (sumTo l s l.length, (l.length : Int)) := by
  have h7 := h.len
  intro fk
  induction fk with
  | zero => intro i _ h; omega
  | succ fk ih =>
    intro i hi hk
    rw [impl_cliqueBound_L2]
    by_cases hil : i < l.length
    · have h1 := h.at_ hil
      have h2 := sumTo_in h s hi
      rw [if_pos (by simpa using hil), idx_gd r0 hil, Option.bind_some, shr_nat s i (by omega), Option.bind_some, bit_eq hs (by omega)]
      have hn := ih (i + 1) hil (by omega)
      rw [sumTo] at hn
      have hw : w64 (sumTo l s i + (gd l i r0).Count) = sumTo l s i + (gd l i r0).Count := w64_in (by omega) (by omega)
      rw [hw, w64_inc hil (by omega)]
      clear hw
      cases hb : bt s i
      · rw [hb] at hn
        simp only [Bool.false_eq_true, if_false, Int.add_zero] at hn ⊢
        exact hn
      · rw [hb] at hn
        simp only [if_true] at hn ⊢
        exact hn
    · obtain rfl : i = l.length := by omega
      rw [if_neg (by simp)]
theorem isClique_eq {fu : Nat} (hfu : 2097153 ≤ fu) {l : List Request} (h : ReqF l) {s : Nat} (hs : s < 16777216) : impl_isClique fu l s = some (clq l s) := by
  have h7 := h.len
  unfold impl_isClique clq
  have inner : ∀ i : Nat, i < l.length → impl_isClique_L2 fu l s i fu 0 = some (if badI l s i = true then .ret false else .next (i : Int)) := by
    intro i hi
    have := scan_any (l := List.range i) (G := impl_isClique_L2 fu l s i) (fun k => bt s i && (bt s k && !cf (gd l i r0) (gd l k r0))) false (by simp; omega)
      (fun fk k hk _ => by
        have hk' : k < i := by simpa using hk
        rw [impl_isClique_L2, if_pos (by simpa using hk'), shr_nat s i (by omega), Option.bind_some, bit_eq hs (by omega), shr_nat s k (by omega), Option.bind_some, bit_eq hs (by omega), idx_gd r0 hi, Option.bind_some, idx_gd r0 (show k < l.length by omega), Option.bind_some, implCf_eq hfu h hi (by omega), Option.bind_some]
        cases bt s i <;> cases bt s k <;> simp)
      (fun fk => by rw [List.length_range, impl_isClique_L2, if_neg (by simp)]) fu (by simp; omega)
    rw [this, List.length_range]
    have e : (List.range i).any (fun k => bt s i && (bt s k && !cf (gd l i r0) (gd l k r0))) = badI l s i := by
      unfold badI
      cases bt s i
      · simp
      · simp
    rw [e]
  have outer := scan_any (l := l) (G := impl_isClique_L1 fu l s) (badI l s) false (by omega)
    (fun fk i hi _ => by
      rw [impl_isClique_L1, if_pos (by simpa using hi), inner i hi, Option.bind_some]
      cases badI l s i <;> rfl)
    (fun fk => by rw [impl_isClique_L1, if_neg (by simp)]) fu (by omega)
  rw [outer]
  cases (List.range l.length).any (badI l s) <;> rfl
def stepB (l : List Request) (m : Int × Nat) (s : Nat) : Int × Nat := if sumTo l s l.length > m.1 ∧ clq l s = true then (sumTo l s l.length, s) else m
def bndF (l : List Request) (k : Nat) : Int × Nat := (List.range k).foldl (stepB l) (0, 0)
theorem bndF_succ (l : List Request) (k : Nat) : bndF l (k + 1) = stepB l (bndF l k) k := by
  unfold bndF; rw [List.range_succ, List.foldl_append]; rfl
theorem bndF_in {l : List Request} (h : ReqF l) : ∀ (k : Nat), 0 ≤ (bndF l k).1 ∧ (bndF l k).1 ≤ 168 ∧ (bndF l k).2 ≤ k
  | 0 => ⟨by simp [bndF], by simp [bndF], by simp [bndF]⟩
  | k + 1 => by
    have h7 := h.len
    have h1 := bndF_in h k
    have := sumTo_in h k (Nat.le_refl l.length)
    rw [bndF_succ]
    unfold stepB
    split
    · refine ⟨?_, ?_, ?_⟩ <;> simp only <;> omega
    · refine ⟨h1.1, ?_, ?_⟩ <;> omega
theorem implBound_loop {fu : Nat} (hfu : 2097153 ≤ fu) {l : List Request} (h : ReqF l) (q : Nat) (hq : q ≤ 128) : ∀ (fk i : Nat), i ≤ q → q - i < fk → impl_cliqueBound_L1 fu l q fk (bndF l i).1 i (bndF l i).2 = some ((bndF l q).1, (q : Int), ((bndF l q).2 : Int)) := by
  have h7 := h.len
  intro fk
  induction fk with
  | zero => intro i _ h; omega
  | succ fk ih =>
    intro i hi hk
    rw [impl_cliqueBound_L1]
    by_cases hil : i < q
    · have hs := sum_loop (fu := fu) h (show i < 16777216 by omega) fu 0 (by omega) (by omega)
      rw [sumTo, show ((0 : Nat) : Int) = 0 from rfl] at hs
      rw [if_pos (by simpa using hil), hs, Option.bind_some, isClique_eq hfu h (show i < 16777216 by omega), Option.bind_some, w64_inc hil (by omega)]
      have hn := ih (i + 1) hil (by omega)
      rw [bndF_succ] at hn
      unfold stepB at hn
      by_cases hg : sumTo l i l.length > (bndF l i).1
      · simp only [hg, decide_true, if_true, Option.bind_some, true_and] at hn ⊢
        cases hc : clq l i
        · rw [hc] at hn
          simp only [Bool.false_eq_true, if_false] at hn ⊢
          exact hn
        · rw [hc] at hn
          simp only [if_true] at hn ⊢
          exact hn
      · simp only [hg, decide_false, Bool.false_eq_true, if_false, Option.bind_some, false_and] at hn ⊢
        exact hn
    · obtain rfl : i = q := by omega
      rw [if_neg (by simp)]
theorem implBound_eq {fu : Nat} (hfu : 2097153 ≤ fu) {l : List Request} (h : ReqF l) : impl_cliqueBound fu l = some ((bndF l (2 ^ l.length)).1, ((bndF l (2 ^ l.length)).2 : Int)) := by
  have h7 := h.len
  have hp := pow7 h7
  unfold impl_cliqueBound
  have := implBound_loop hfu h (2 ^ l.length) hp.2 fu 0 (by omega) (by omega)
  rw [show bndF l 0 = (0, 0) from rfl, show ((0 : Nat) : Int) = 0 from rfl] at this
  rw [shl1 h7, Option.bind_some, this]
  rfl
end AT

namespace AT
def clash (l : List Request) (pre : List Block) (i : Nat) (b : Block) (k : Nat) : Bool := cf (gd l i r0) (gd l k r0) && !apart (bits b) (bits (gd pre k b0))
def free (l : List Request) (pre : List Block) (b : Block) : Bool := !(List.range pre.length).any (clash l pre pre.length b)
def firstOf {α : Type} (g : Nat → Option α) : Nat → Nat → Option α
  | 0, _ => none
  | c + 1, s => match g s with
    | some r => some r
    | none => firstOf g c (s + 1)
def cnt (l : List Request) (pre : List Block) : Int := (gd l pre.length r0).Count
def ext (l : List Request) (h : Int) : Nat → List Block → Option (List Block)
  | 0, pre => some pre
  | d + 1, pre => firstOf (fun s => if free l pre ⟨(s : Int), cnt l pre⟩ = true then ext l h d (pre ++ [⟨(s : Int), cnt l pre⟩]) else none) (h + 1 - cnt l pre).toNat 0
theorem any_lt {m n : Nat} (h : m ≤ n) (q : Nat → Bool) : (List.range n).any (fun k => decide (k < m) && q k) = (List.range m).any q := by
  rw [Bool.eq_iff_iff, List.any_eq_true, List.any_eq_true]
  constructor
  · rintro ⟨k, -, k2⟩
    simp only [Bool.and_eq_true, decide_eq_true_eq] at k2
    exact ⟨k, List.mem_range.2 k2.1, k2.2⟩
  · rintro ⟨k, k1, k2⟩
    have := List.mem_range.1 k1
    exact ⟨k, List.mem_range.2 (by omega), by simp [this, k2]⟩
theorem band_ne (a b : Int) : (band a b != 0) = !apart a b := rfl
theorem gd_ok {pre : List Block} (h : ∀ b ∈ pre, blkOk b = true) {k : Nat} (hk : k < pre.length) : blkOk (gd pre k b0) = true := by
  rw [gd_in b0 hk]; exact h _ (List.getElem_mem hk)
theorem isFree_eq {fu : Nat} (hfu : 2097153 ≤ fu) {l : List Request} (hl : ReqF l) {pre : List Block} (hp : ∀ b ∈ pre, blkOk b = true) (hi : pre.length < l.length) {b : Block} (hb : blkOk b = true) :
    impl_isFree_of_assignedTo_c1c1 fu l pre (pre.length : Int) b (pre.length : Int) = some (free l pre b) := by
  have h7 := hl.len
  unfold impl_isFree_of_assignedTo_c1c1 free
  have := scan_any (l := l) (G := impl_isFree_of_assignedTo_c1c1_L1 fu l pre (pre.length : Int) b (pre.length : Int)) (fun k => decide (k < pre.length) && clash l pre pre.length b k) false (by omega)
    (fun fk k hk _ => by
      by_cases hki : k < pre.length
      · have h1 : ((k : Int) != (pre.length : Int)) = true := by rw [bne_iff_ne]; omega
        have h2 : (k : Int) < (pre.length : Int) := by omega
        have hv : (decide (k < pre.length) && clash l pre pre.length b k) = (cf (gd l pre.length r0) (gd l k r0) && !apart (bits b) (bits (gd pre k b0))) := by
          rw [decide_eq_true hki, Bool.true_and, clash]
        rw [hv, impl_isFree_of_assignedTo_c1c1_L1, if_pos (by simpa using hk), impl_assignedTo_c1c1, h1, if_pos rfl, decide_eq_true h2, Option.bind_some, if_pos rfl, idx_gd r0 hi, Option.bind_some, idx_gd r0 hk, Option.bind_some, implCf_eq hfu hl hi hk, Option.bind_some, idx_gd b0 hki, Option.bind_some, maskOf_eq hb, Option.bind_some, maskOf_eq (gd_ok hp hki), Option.bind_some, band_ne]
        generalize cf (gd l pre.length r0) (gd l k r0) = q
        generalize apart (bits b) (bits (gd pre k b0)) = q2
        cases q
        · rw [if_neg Bool.false_ne_true, Option.bind_some, Bool.false_and]
        · rw [if_pos rfl, Option.bind_some, Bool.true_and]
      · have h2 : ¬ (k : Int) < (pre.length : Int) := by omega
        have hv : (decide (k < pre.length) && clash l pre pre.length b k) = false := by rw [decide_eq_false hki, Bool.false_and]
        rw [hv, impl_isFree_of_assignedTo_c1c1_L1, if_pos (by simpa using hk), impl_assignedTo_c1c1, decide_eq_false h2, Option.bind_some, if_neg Bool.false_ne_true]
        by_cases h1 : ((k : Int) != (pre.length : Int)) = true
        · rw [if_pos h1, Option.bind_some]
        · rw [if_neg h1, Option.bind_some])
    (fun fk => by rw [impl_isFree_of_assignedTo_c1c1_L1, if_neg (by simp)]) fu (by omega)
  rw [this, any_lt (Nat.le_of_lt hi)]
  cases (List.range pre.length).any (clash l pre pre.length b) <;> rfl
theorem sub_pre {α : Type} {l : List α} {n : Nat} (h : n ≤ l.length) : sub l 0 (n : Int) = some (l.take n) := sub_take h
theorem blk_of {l : List Request} (hl : ReqF l) {pre : List Block} (hi : pre.length < l.length) {h : Int} (hh : h ≤ 24) {s : Nat} (hs : (s : Int) + cnt l pre ≤ h) : blkOk ⟨(s : Int), cnt l pre⟩ = true := by
  have := hl.at_ hi
  unfold blkOk
  unfold cnt at hs ⊢
  simp only [Bool.and_eq_true, decide_eq_true_eq]
  omega
theorem snoc_ok {pre : List Block} (hp : ∀ b ∈ pre, blkOk b = true) {b : Block} (hb : blkOk b = true) : ∀ c ∈ pre ++ [b], blkOk c = true := by
  intro c hc
  rcases List.mem_append.1 hc with h | h
  · exact hp c h
  · rw [List.mem_singleton] at h; subst h; exact hb
theorem search_eq {l : List Request} (hl : ReqF l) (h : Int) (hh : h ≤ 24) : ∀ (d f : Nat) (pre : List Block), 2097153 + d < f → pre.length + d = l.length → (∀ b ∈ pre, blkOk b = true) →
    ∃ r, impl_assignedTo_c1 f pre l h = some r ∧ match ext l h d pre with | some full => r = (true, full) | none => r.1 = false ∧ r.2.take pre.length = pre := by
  have h7 := hl.len
  intro d
  induction d with
  | zero =>
    intro f pre hf hd hp
    obtain ⟨f, rfl⟩ : ∃ g, f = g + 1 := ⟨f - 1, by omega⟩
    rw [impl_assignedTo_c1, impl_assignedTo_c1_B, if_pos (by rw [beq_iff_eq]; omega), ext]
    exact ⟨_, rfl, rfl⟩
  | succ d ih =>
    intro f pre hf hd hp
    obtain ⟨f, rfl⟩ : ∃ g, f = g + 1 := ⟨f - 1, by omega⟩
    have hi : pre.length < l.length := by omega
    have hc := hl.at_ hi
    have e0 : cnt l pre = (gd l pre.length r0).Count := rfl
    rw [impl_assignedTo_c1, impl_assignedTo_c1_B, if_neg (by rw [beq_iff_eq]; omega), ext]
    have key : ∀ (fk c s : Nat), c < fk → c = (h + 1 - cnt l pre).toNat - s → s ≤ (h + 1 - cnt l pre).toNat →
        ∃ z, impl_assignedTo_c1_L1 f pre l h (fun cap cap2 cap3 => impl_assignedTo_c1 f cap cap2 cap3) fk (s : Int) pre = some (match firstOf (fun s => if free l pre ⟨(s : Int), cnt l pre⟩ = true then ext l h d (pre ++ [⟨(s : Int), cnt l pre⟩]) else none) c s with | some full => .ret (true, full) | none => .next (z, pre)) := by
      intro fk
      induction fk with
      | zero => intro c s hk; omega
      | succ fk ih2 =>
        intro c s hk hcs hs
        rw [impl_assignedTo_c1_L1, idx_gd r0 hi, Option.bind_some]
        have hw : w64 ((s : Int) + (gd l pre.length r0).Count) = (s : Int) + cnt l pre := w64_in (by unfold cnt at hs; omega) (by unfold cnt at hs; omega)
        rw [hw]
        clear hw
        cases c with
        | zero =>
          have hn : ¬ ((s : Int) + cnt l pre ≤ h) := by
            have : cnt l pre = (gd l pre.length r0).Count := rfl
            omega
          rw [if_neg (by simpa using hn)]
          exact ⟨_, rfl⟩
        | succ c =>
          have hn : (s : Int) + cnt l pre ≤ h := by
            have : cnt l pre = (gd l pre.length r0).Count := rfl
            omega
          have hb := blk_of hl hi hh hn
          rw [if_pos (by simpa using hn), Option.bind_some]
          have hfr := isFree_eq (fu := f) (by omega) hl hp hi hb
          have hw : w64 ((s : Int) + 1) = ((s + 1 : Nat) : Int) := by rw [w64_in (by omega) (by omega)]; rfl
          have e : (gd l pre.length r0).Count = cnt l pre := rfl
          rw [e, hfr, Option.bind_some, hw, firstOf]
          clear hw
          obtain ⟨z, hz⟩ := ih2 c (s + 1) (by omega) (by omega) (by omega)
          cases hfree : free l pre ⟨(s : Int), cnt l pre⟩
          · simp only [Bool.not_false, if_true, Bool.false_eq_true, if_false]
            exact ⟨z, hz⟩
          · simp only [Bool.not_true, Bool.false_eq_true, if_false, if_true]
            obtain ⟨r, r1, r2⟩ := ih f (pre ++ [⟨(s : Int), cnt l pre⟩]) (by omega) (by rw [List.length_append, List.length_singleton]; omega) (snoc_ok hp hb)
            rw [app_ok (by rw [List.length_singleton]; omega), Option.bind_some, r1, Option.bind_some]
            cases he : ext l h d (pre ++ [⟨(s : Int), cnt l pre⟩]) with
            | some full =>
              rw [he] at r2
              simp only at r2
              subst r2
              exact ⟨0, rfl⟩
            | none =>
              rw [he] at r2
              simp only at r2
              obtain ⟨r3, r4⟩ := r2
              have hlen := congrArg List.length r4
              rw [List.length_take, List.length_append, List.length_singleton] at hlen
              have ht : r.2.take pre.length = pre := by
                have := congrArg (List.take pre.length) r4
                rw [List.take_take, List.length_append, List.length_singleton, Nat.min_eq_left (by omega)] at this
                simpa using this
              rw [r3, if_neg Bool.false_ne_true, sub_pre (by omega), Option.bind_some, ht]
              exact ⟨z, hz⟩
    obtain ⟨z, hz⟩ := key f (h + 1 - cnt l pre).toNat 0 (by unfold cnt; omega) (by omega) (by omega)
    rw [show ((0 : Nat) : Int) = 0 from rfl] at hz
    rw [hz]
    cases firstOf (fun s => if free l pre ⟨(s : Int), cnt l pre⟩ = true then ext l h d (pre ++ [⟨(s : Int), cnt l pre⟩]) else none) (h + 1 - cnt l pre).toNat 0 with
    | some full => exact ⟨_, rfl, rfl⟩
    | none => exact ⟨_, rfl, rfl, List.take_length⟩
theorem gd_left {α : Type} {a b : List α} {k : Nat} (x : α) (h : k < a.length) : gd (a ++ b) k x = gd a k x := by
  unfold gd; rw [List.getElem?_append_left h]
theorem apart_comm (a b : Int) : apart a b = apart b a := by
  unfold apart band
  rw [BitVec.and_comm]
def exF (l : List Request) : Nat → Int → Option (List Block × Int)
  | 0, _ => none
  | c + 1, h => match ext l h l.length [] with
    | some full => some (full, h)
    | none => exF l c (h + 1)
def bnd (l : List Request) : Int := (bndF l (2 ^ l.length)).1
def ex (l : List Request) : Option (List Block × Int) := exF l (25 - bnd l).toNat (bnd l)
theorem assign_loop {fu : Nat} (hfu : 2097200 ≤ fu) {l : List Request} (hl : ReqF l) : ∀ (fk c : Nat) (h : Int), c < fk → c = (25 - h).toNat → 0 ≤ h → h ≤ 1000 →
    ∃ z, impl_AssignExact_L1 fu l fk h = some (match exF l c h with | some (full, h) => .ret (full, h, true) | none => .next z) := by
  have h7 := hl.len
  intro fk
  induction fk with
  | zero => intro c h hk; omega
  | succ fk ih =>
    intro c h hk hc h0 h1
    rw [impl_AssignExact_L1]
    cases c with
    | zero =>
      rw [if_neg (by simp; omega)]
      exact ⟨_, rfl⟩
    | succ c =>
      obtain ⟨r, r1, r2⟩ := search_eq hl h (by omega) l.length fu [] (by omega) (by simp) (by simp)
      rw [if_pos (by simp; omega), impl_assignedTo, r1, Option.bind_some, Option.bind_some, exF]
      have hw : w64 (h + 1) = h + 1 := w64_in (by omega) (by omega)
      rw [hw]
      clear hw
      obtain ⟨z, hz⟩ := ih c (h + 1) (by omega) (by omega) (by omega) (by omega)
      cases he : ext l h l.length [] with
      | some full =>
        rw [he] at r2
        simp only at r2
        subst r2
        exact ⟨0, rfl⟩
      | none =>
        rw [he] at r2
        simp only at r2
        rw [r2.1, if_neg Bool.false_ne_true]
        exact ⟨z, hz⟩
def exR (l : List Request) : List Block × Int × Bool := match ex l with | some (full, h) => (full, h, true) | none => ([], 0, false)
theorem bnd_in {l : List Request} (hl : ReqF l) : 0 ≤ bnd l ∧ bnd l ≤ 168 := ⟨(bndF_in hl _).1, (bndF_in hl _).2.1⟩
theorem assignExact_eq {fu : Nat} (hfu : 2097200 ≤ fu) (n : Network) (l : List Request) (hB : NetB n) (hl : ReqB l) : impl_AssignExact fu n l = some (if reqsOk n l = true then exR l else ([], 0, false)) := by
  unfold impl_AssignExact
  rw [implReqs_eq (by omega) n l hB hl]
  cases hv : reqsOk n l
  · rfl
  have hF := reqF hv
  have hb := bnd_in hF
  obtain ⟨z, hz⟩ := assign_loop hfu hF fu (25 - bnd l).toNat (bnd l) (by omega) rfl hb.1 (by omega)
  simp only [Option.bind_some, Bool.not_true, Bool.false_eq_true, if_false, if_true]
  rw [implBound_eq (by omega) hF, Option.bind_some]
  show (impl_AssignExact_L1 fu l fu (bnd l)).bind _ = _
  rw [hz]
  unfold exR ex
  cases exF l (25 - bnd l).toNat (bnd l) <;> rfl
end AT

namespace AT
def As (l : List Request) (h : Int) (bl : List Block) : Prop := ∀ i, i < bl.length → (gd bl i b0).Count = (gd l i r0).Count ∧ 0 ≤ (gd bl i b0).First ∧ (gd bl i b0).First + (gd bl i b0).Count ≤ h ∧ ∀ k, k < i → cf (gd l i r0) (gd l k r0) = true → apart (bits (gd bl i b0)) (bits (gd bl k b0)) = true
theorem firstOf_some {α : Type} {g : Nat → Option α} {r : α} : ∀ {c s : Nat}, firstOf g c s = some r → ∃ t, s ≤ t ∧ t < s + c ∧ g t = some r
  | 0, s, h => by rw [firstOf] at h; cases h
  | c + 1, s, h => by
    rw [firstOf] at h
    cases hg : g s with
    | some x => rw [hg] at h; exact ⟨s, Nat.le_refl _, by omega, by rw [hg]; exact h⟩
    | none =>
      rw [hg] at h
      obtain ⟨t, t1, t2, t3⟩ := firstOf_some h
      exact ⟨t, by omega, by omega, t3⟩
theorem firstOf_none {α : Type} {g : Nat → Option α} : ∀ {c s : Nat}, firstOf g c s = none → ∀ t, s ≤ t → t < s + c → g t = none
  | 0, s, _, t, h1, h2 => by omega
  | c + 1, s, h, t, h1, h2 => by
    rw [firstOf] at h
    cases hg : g s with
    | some x => rw [hg] at h; cases h
    | none =>
      rw [hg] at h
      by_cases hts : t = s
      · rw [hts]; exact hg
      · exact firstOf_none h t (by omega) (by omega)
theorem gd_snoc {pre : List Block} {b : Block} : gd (pre ++ [b]) pre.length b0 = b := by
  unfold gd; simp
theorem free_iff {l : List Request} {pre : List Block} {b : Block} : free l pre b = true ↔ ∀ k, k < pre.length → cf (gd l pre.length r0) (gd l k r0) = true → apart (bits b) (bits (gd pre k b0)) = true := by
  unfold free
  rw [Bool.not_eq_true', List.any_eq_false]
  constructor
  · intro h k hk hc
    have := h k (List.mem_range.2 hk)
    unfold clash at this
    rw [hc] at this
    simpa using this
  · intro h k hk
    unfold clash
    cases hc : cf (gd l pre.length r0) (gd l k r0)
    · simp
    · rw [h k (List.mem_range.1 hk) hc]; simp
theorem As.snoc {l : List Request} {h : Int} {pre : List Block} (hA : As l h pre) {b : Block} (hc : b.Count = cnt l pre) (h0 : 0 ≤ b.First) (h1 : b.First + b.Count ≤ h) (hf : free l pre b = true) : As l h (pre ++ [b]) := by
  intro i hi
  rw [List.length_append, List.length_singleton] at hi
  by_cases hil : i < pre.length
  · obtain ⟨a1, a2, a3, a4⟩ := hA i hil
    rw [gd_left b0 hil]
    refine ⟨a1, a2, a3, fun k hk hcf => ?_⟩
    rw [gd_left b0 (show k < pre.length by omega)]
    exact a4 k hk hcf
  · obtain rfl : i = pre.length := by omega
    rw [gd_snoc]
    refine ⟨hc, h0, h1, fun k hk hcf => ?_⟩
    rw [gd_left b0 hk]
    exact free_iff.1 hf k hk hcf
theorem ext_sound {l : List Request} {h : Int} : ∀ (d : Nat) (pre full : List Block), pre.length + d = l.length → As l h pre → ext l h d pre = some full → As l h full ∧ full.length = l.length
  | 0, pre, full, hd, hA, he => by
    rw [ext] at he
    injection he with he
    subst he
    exact ⟨hA, by omega⟩
  | d + 1, pre, full, hd, hA, he => by
    rw [ext] at he
    obtain ⟨t, t1, t2, t3⟩ := firstOf_some he
    split at t3
    · rename_i hf
      exact ext_sound d _ full (by rw [List.length_append, List.length_singleton]; omega) (hA.snoc rfl (by simp) (show (t : Int) + cnt l pre ≤ h by omega) hf) t3
    · cases t3
theorem ext_none {l : List Request} {h : Int} (hl : ReqF l) : ∀ (d : Nat) (pre full : List Block), pre.length + d = l.length → ext l h d pre = none → As l h full → full.length = l.length → full.take pre.length = pre → False
  | 0, pre, full, hd, he, hA, hfl, hp => by rw [ext] at he; cases he
  | d + 1, pre, full, hd, he, hA, hfl, hp => by
    rw [ext] at he
    have hi : pre.length < full.length := by omega
    obtain ⟨a1, a2, a3, a4⟩ := hA pre.length hi
    have hcnt : (gd full pre.length b0).Count = cnt l pre := a1
    obtain ⟨b, hb⟩ : ∃ b, b = gd full pre.length b0 := ⟨_, rfl⟩
    rw [← hb] at a1 a2 a3 a4 hcnt
    have ht := firstOf_none he b.First.toNat (by omega) (by omega)
    have hbe : (⟨(b.First.toNat : Int), cnt l pre⟩ : Block) = b := by
      rw [← hcnt, Int.toNat_of_nonneg a2]
    rw [hbe] at ht
    have hpre : ∀ k, k < pre.length → gd pre k b0 = gd full k b0 := by
      intro k hk
      rw [← hp]
      unfold gd
      rw [List.getElem?_take_of_lt (by simpa using hk)]
    have hf : free l pre b = true := free_iff.2 fun k hk hc => by
      rw [hpre k hk]
      exact a4 k hk hc
    rw [if_pos hf] at ht
    refine ext_none hl d (pre ++ [b]) full (by rw [List.length_append, List.length_singleton]; omega) ht hA hfl ?_
    rw [List.length_append, List.length_singleton, List.take_add_one, hp, hb, gd, List.getElem?_eq_getElem hi]
    rfl
def ind (b : Block) (t : Nat) : Nat := if b.First ≤ (t : Int) ∧ (t : Int) < b.First + b.Count then 1 else 0
def sumR (f : Nat → Nat) : Nat → Nat
  | 0 => 0
  | n + 1 => sumR f n + f n
theorem sumR_ind (b : Block) (h0 : 0 ≤ b.First) (h1 : 1 ≤ b.Count) : ∀ n : Nat, sumR (ind b) n = min n (b.First + b.Count).toNat - min n b.First.toNat
  | 0 => by simp [sumR]
  | n + 1 => by
    rw [sumR, sumR_ind b h0 h1 n, ind]
    split <;> omega
theorem sumR_add (f g : Nat → Nat) : ∀ n, sumR (fun t => f t + g t) n = sumR f n + sumR g n
  | 0 => rfl
  | n + 1 => by rw [sumR, sumR, sumR, sumR_add f g n]; omega
theorem sumR_le {f : Nat → Nat} (h : ∀ t, f t ≤ 1) : ∀ n, sumR f n ≤ n
  | 0 => Nat.le_refl _
  | n + 1 => by
    have := sumR_le h n
    have := h n
    rw [sumR]; omega
def cov (bl : List Block) (s : Nat) : Nat → Nat → Nat
  | 0, _ => 0
  | i + 1, t => cov bl s i t + if bt s i = true then ind (gd bl i b0) t else 0
theorem sumR_zero : ∀ n, sumR (fun _ => 0) n = 0
  | 0 => rfl
  | n + 1 => by rw [sumR, sumR_zero n]
theorem cov_sum {l : List Request} (hl : ReqF l) {h : Int} {bl : List Block} (hA : As l h bl) (hbl : bl.length = l.length) (s : Nat) : ∀ i, i ≤ l.length → (sumR (cov bl s i) h.toNat : Int) = sumTo l s i
  | 0, _ => by
    rw [sumTo]
    have : cov bl s 0 = fun _ => 0 := rfl
    rw [this, sumR_zero]; rfl
  | i + 1, hi => by
    have hr := hl.at_ (show i < l.length by omega)
    obtain ⟨a1, a2, a3, -⟩ := hA i (by omega)
    have : cov bl s (i + 1) = fun t => cov bl s i t + if bt s i = true then ind (gd bl i b0) t else 0 := rfl
    rw [this, sumR_add, sumTo, ← cov_sum hl hA hbl s i (by omega)]
    cases bt s i
    · simp [sumR_zero]
    · simp only [if_true]
      have := sumR_ind (gd bl i b0) a2 (by omega) h.toNat
      have e : (fun t => ind (gd bl i b0) t) = ind (gd bl i b0) := rfl
      rw [e, this]
      omega
theorem blk_at {l : List Request} (hl : ReqF l) {h : Int} (hh : h ≤ 24) {bl : List Block} (hA : As l h bl) (hbl : bl.length = l.length) {i : Nat} (hi : i < l.length) : blkOk (gd bl i b0) = true := by
  have hr := hl.at_ hi
  obtain ⟨a1, a2, a3, -⟩ := hA i (by omega)
  unfold blkOk
  simp only [Bool.and_eq_true, decide_eq_true_eq]
  omega
theorem cov_le {l : List Request} (hl : ReqF l) {h : Int} (hh : h ≤ 24) {bl : List Block} (hA : As l h bl) (hbl : bl.length = l.length) {s : Nat} (hc : clq l s = true) (t : Nat) : ∀ i, i ≤ l.length → cov bl s i t ≤ 1 ∧ (1 ≤ cov bl s i t → ∃ k, k < i ∧ bt s k = true ∧ (gd bl k b0).First ≤ (t : Int) ∧ (t : Int) < (gd bl k b0).First + (gd bl k b0).Count)
  | 0, _ => ⟨Nat.zero_le _, fun h => by rw [cov] at h; omega⟩
  | i + 1, hi => by
    obtain ⟨c1, c2⟩ := cov_le hl hh hA hbl hc t i (by omega)
    rw [cov]
    cases hb : bt s i
    · simp only [Bool.false_eq_true, if_false, Nat.add_zero]
      refine ⟨c1, fun h => ?_⟩
      obtain ⟨k, k1, k2⟩ := c2 h
      exact ⟨k, by omega, k2⟩
    · simp only [if_true]
      unfold ind
      split
      · rename_i hin
        have hz : cov bl s i t = 0 := by
          rcases Nat.lt_or_ge 0 (cov bl s i t) with hq | hq
          · obtain ⟨k, k1, k2, k3, k4⟩ := c2 hq
            exfalso
            have hcf : cf (gd l i r0) (gd l k r0) = true := by
              unfold clq at hc
              rw [Bool.not_eq_true', List.any_eq_false] at hc
              have := hc i (List.mem_range.2 (by omega))
              unfold badI at this
              rw [hb, Bool.true_and, Bool.not_eq_true, List.any_eq_false] at this
              have := this k (List.mem_range.2 k1)
              rw [k2, Bool.true_and, Bool.not_eq_true, Bool.not_eq_false'] at this
              exact this
            obtain ⟨-, -, -, a4⟩ := hA i (by omega)
            have := a4 k k1 hcf
            rw [bits_apart (blk_at hl hh hA hbl (by omega)) (blk_at hl hh hA hbl (by omega)), decide_eq_true_eq] at this
            omega
          · omega
        exact ⟨by omega, fun _ => ⟨i, by omega, hb, hin⟩⟩
      · refine ⟨by omega, fun h => ?_⟩
        obtain ⟨k, k1, k2⟩ := c2 (by omega)
        exact ⟨k, by omega, k2⟩
theorem clique_le {l : List Request} (hl : ReqF l) {h : Int} (h0 : 0 ≤ h) (hh : h ≤ 24) {bl : List Block} (hA : As l h bl) (hbl : bl.length = l.length) {s : Nat} (hc : clq l s = true) : sumTo l s l.length ≤ h := by
  rw [← cov_sum hl hA hbl s l.length (Nat.le_refl _)]
  have := sumR_le (fun t => (cov_le hl hh hA hbl hc t l.length (Nat.le_refl _)).1) h.toNat
  omega
theorem bndF_clq {l : List Request} {P : Int → Prop} (h0 : P 0) (hP : ∀ s, clq l s = true → P (sumTo l s l.length)) : ∀ k, P (bndF l k).1
  | 0 => h0
  | k + 1 => by
    rw [bndF_succ]
    unfold stepB
    split
    · rename_i h; exact hP k h.2
    · exact bndF_clq h0 hP k
theorem bnd_le {l : List Request} (hl : ReqF l) {h : Int} (h0 : 0 ≤ h) (hh : h ≤ 24) {bl : List Block} (hA : As l h bl) (hbl : bl.length = l.length) : bnd l ≤ h :=
  bndF_clq (P := fun x => x ≤ h) h0 (fun s hs => clique_le hl h0 hh hA hbl hs) _
theorem exF_some {l : List Request} {full : List Block} {h' : Int} : ∀ {c : Nat} {h : Int}, exF l c h = some (full, h') → h ≤ h' ∧ h' < h + c ∧ ext l h' l.length [] = some full ∧ ∀ g, h ≤ g → g < h' → ext l g l.length [] = none
  | 0, h, he => by rw [exF] at he; cases he
  | c + 1, h, he => by
    rw [exF] at he
    cases hx : ext l h l.length [] with
    | some x =>
      rw [hx] at he
      simp only [Option.some.injEq, Prod.mk.injEq] at he
      obtain ⟨rfl, rfl⟩ := he
      exact ⟨Int.le_refl _, by omega, hx, fun g h1 h2 => by omega⟩
    | none =>
      rw [hx] at he
      obtain ⟨e1, e2, e3, e4⟩ := exF_some he
      refine ⟨by omega, by omega, e3, fun g h1 h2 => ?_⟩
      by_cases hg : g = h
      · rw [hg]; exact hx
      · exact e4 g (by omega) h2
def hgt (bl : List Block) : Int := bl.foldl (fun m b => gmax m (b.First + b.Count)) 0
theorem hgt_from : ∀ (bl : List Block) (m : Int), m ≤ bl.foldl (fun m b => gmax m (b.First + b.Count)) m ∧ (∀ b ∈ bl, b.First + b.Count ≤ bl.foldl (fun m b => gmax m (b.First + b.Count)) m) ∧ (∀ h, m ≤ h → (∀ b ∈ bl, b.First + b.Count ≤ h) → bl.foldl (fun m b => gmax m (b.First + b.Count)) m ≤ h)
  | [], m => ⟨Int.le_refl _, fun b hb => (by cases hb), fun h hm _ => hm⟩
  | x :: bl, m => by
    obtain ⟨a1, a2, a3⟩ := hgt_from bl (gmax m (x.First + x.Count))
    have g1 : m ≤ gmax m (x.First + x.Count) ∧ x.First + x.Count ≤ gmax m (x.First + x.Count) ∧ ∀ h, m ≤ h → x.First + x.Count ≤ h → gmax m (x.First + x.Count) ≤ h := by
      unfold gmax
      split
      · exact ⟨by omega, by omega, fun h _ h2 => h2⟩
      · exact ⟨by omega, by omega, fun h h1 _ => h1⟩
    rw [List.foldl_cons]
    refine ⟨by omega, fun b hb => ?_, fun h hm hb => ?_⟩
    · rcases List.mem_cons.1 hb with rfl | hb
      · omega
      · exact a2 b hb
    · exact a3 h (g1.2.2 h hm (hb x (by simp))) fun b hb' => hb b (by simp [hb'])
theorem hgt_0 (bl : List Block) : 0 ≤ hgt bl := (hgt_from bl 0).1
theorem hgt_ge {bl : List Block} {i : Nat} (hi : i < bl.length) : (gd bl i b0).First + (gd bl i b0).Count ≤ hgt bl := by
  rw [gd_in b0 hi]; exact (hgt_from bl 0).2.1 _ (List.getElem_mem hi)
theorem hgt_le {bl : List Block} {h : Int} (h0 : 0 ≤ h) (hb : ∀ i, i < bl.length → (gd bl i b0).First + (gd bl i b0).Count ≤ h) : hgt bl ≤ h := by
  refine (hgt_from bl 0).2.2 h h0 fun b hb' => ?_
  obtain ⟨i, hi, rfl⟩ := List.mem_iff_getElem.1 hb'
  have := hb i hi
  rwa [gd_in b0 hi] at this
theorem As.hgt {l : List Request} {h : Int} {bl : List Block} (hA : As l h bl) : As l (AT.hgt bl) bl := fun i hi => by
  obtain ⟨a1, a2, a3, a4⟩ := hA i hi
  exact ⟨a1, a2, hgt_ge hi, a4⟩
theorem As.le {l : List Request} {h : Int} {bl : List Block} (h0 : 0 ≤ h) (hA : As l h bl) : AT.hgt bl ≤ h := hgt_le h0 fun i hi => (hA i hi).2.2.1
theorem ex_some {l : List Request} (hl : ReqF l) {full : List Block} {h : Int} (he : ex l = some (full, h)) : As l h full ∧ full.length = l.length ∧ 0 ≤ h ∧ h ≤ 24 ∧ bnd l ≤ h ∧ ∀ g bl, 0 ≤ g → g ≤ 24 → As l g bl → bl.length = l.length → h ≤ g := by
  have hb := bnd_in hl
  obtain ⟨e1, e2, e3, e4⟩ := exF_some he
  obtain ⟨s1, s2⟩ := ext_sound l.length [] full (by simp) (fun i hi => by simp at hi) e3
  refine ⟨s1, s2, by omega, by omega, e1, fun g bl h0 hg hA hbl => ?_⟩
  have hbg := bnd_le hl h0 hg hA hbl
  rcases Int.lt_or_le g h with hlt | hle
  · exact (ext_none hl l.length [] bl (by simp) (e4 g hbg hlt) hA hbl (by simp)).elim
  · exact hle
theorem ex_hgt {l : List Request} (hl : ReqF l) {full : List Block} {h : Int} (he : ex l = some (full, h)) : hgt full = h := by
  obtain ⟨a1, a2, a3, a4, a5, a6⟩ := ex_some hl he
  have h1 := a1.le a3
  have h2 := a6 (hgt full) full (hgt_0 _) (by omega) a1.hgt a2
  omega
end AT

namespace AT
def reqsOf (p : Plan) : List Request := p.Lights.map fun x => ⟨x.Route, x.Block.Count⟩
theorem implReqsOf_eq {fu : Nat} (hfu : 2097153 ≤ fu) (p : Plan) (hl : p.Lights.length ≤ 2097152) : impl_requestsOf fu p = some (reqsOf p) := by
  have key : ∀ (fk i : Nat) (o : List Request), i ≤ p.Lights.length → p.Lights.length - i < fk → o.length ≤ i → ∃ z, impl_requestsOf_L1 fu p fk o i = some (o ++ (p.Lights.drop i).map (fun x => ⟨x.Route, x.Block.Count⟩), z) := by
    intro fk
    induction fk with
    | zero => intro i _ _ h; omega
    | succ fk ih =>
      intro i o hi hk ho
      rw [impl_requestsOf_L1]
      by_cases h : i < p.Lights.length
      · rw [if_pos (by simpa using h), idx_in h, Option.bind_some, app_ok (by rw [List.length_singleton]; omega), Option.bind_some, w64_inc h (by omega), ← List.getElem_cons_drop h]
        obtain ⟨z, hz⟩ := ih (i + 1) (o ++ [⟨p.Lights[i].Route, p.Lights[i].Block.Count⟩]) h (by omega) (by rw [List.length_append, List.length_singleton]; omega)
        rw [hz]
        exact ⟨z, by rw [List.append_assoc, List.map_cons]; rfl⟩
      · obtain rfl : i = p.Lights.length := by omega
        rw [if_neg (by simp), List.drop_length]
        exact ⟨(p.Lights.length : Int), by simp⟩
  unfold impl_requestsOf
  obtain ⟨z, hz⟩ := key fu 0 [] (by omega) (by omega) (by simp)
  rw [show ((0 : Nat) : Int) = 0 from rfl] at hz
  rw [hz]
  simp [reqsOf]
theorem reqsOf_len (p : Plan) : (reqsOf p).length = p.Lights.length := by simp [reqsOf]
theorem reqsOf_B {p : Plan} (hB : PlanB p) : ReqB (reqsOf p) := by
  refine ⟨by rw [reqsOf_len]; exact hB.2.1, fun x hx => ?_⟩
  obtain ⟨y, hy, rfl⟩ := List.mem_map.1 hx
  exact hB.2.2 y hy
theorem reqsOk_of {p : Plan} (hp : planOk p = true) : reqsOk p.Network (reqsOf p) = decide (p.Lights.length ≤ 7) := by
  obtain ⟨h1, h2, h3, h4⟩ := planOk_iff.1 hp
  unfold reqsOk
  rw [h1, reqsOf_len, Bool.true_and]
  have : (reqsOf p).any (reqBad p.Network) = false := by
    rw [List.any_eq_false]
    intro x hx
    obtain ⟨y, hy, rfl⟩ := List.mem_map.1 hx
    have := h3 y hy
    unfold lightOk blkOk at this
    simp only [Bool.and_eq_true, decide_eq_true_eq] at this
    obtain ⟨-, q1, q2, q3, q4⟩ := this
    unfold reqBad
    have c1 : y.Block.Count ≤ 24 := by omega
    simp [q1, q3, c1]
  rw [this, Bool.not_false, Bool.and_true]
def withB (p : Plan) (bl : List Block) : Plan := { Network := p.Network, Lights := p.Lights.zipWith (fun x b => ⟨x.Id, x.Route, b⟩) bl }
theorem gd_zip (L : List Light) (bl : List Block) {i : Nat} (h1 : i < L.length) (h2 : i < bl.length) : gd (L.zipWith (fun x b => (⟨x.Id, x.Route, b⟩ : Light)) bl) i l0 = ⟨(gd L i l0).Id, (gd L i l0).Route, gd bl i b0⟩ := by
  rw [gd_in l0 (by rw [List.length_zipWith]; omega), gd_in l0 h1, gd_in b0 h2, List.getElem_zipWith]
theorem gd_ext {L M : List Light} (h : L.length = M.length) (he : ∀ i, i < L.length → gd L i l0 = gd M i l0) : L = M :=
  List.ext_getElem h fun i h1 h2 => by
    have := he i h1
    rwa [gd_in l0 h1, gd_in l0 h2] at this
theorem gd_set1 {L : List Light} {i j : Nat} {x : Light} (hi : i < L.length) : gd (L.set i x) j l0 = if j = i then x else gd L j l0 := by
  unfold gd
  by_cases h : j = i
  · subst h; rw [List.getElem?_set_self hi, if_pos rfl]; rfl
  · rw [List.getElem?_set_ne (by omega), if_neg h]
theorem blocks_loop (L : List Light) (bl : List Block) (hbl : bl.length = L.length) (hn : L.length ≤ 2097152) (G : Nat → Int → List Light → Option (Int × List Light))
    (hG : ∀ fk (i : Nat) m, m.length = L.length → i < L.length → G (fk + 1) i m = G fk (w64 ((i : Int) + 1)) (m.set i ⟨(gd m i l0).Id, (gd m i l0).Route, gd bl i b0⟩)) (hz : ∀ fk m, m.length = L.length → G (fk + 1) L.length m = some ((L.length : Int), m)) :
    ∀ (fk i : Nat) (m : List Light), i ≤ L.length → L.length - i < fk → m.length = L.length → (∀ j, j < i → gd m j l0 = ⟨(gd L j l0).Id, (gd L j l0).Route, gd bl j b0⟩) → (∀ j, i ≤ j → gd m j l0 = gd L j l0) →
      G fk i m = some ((L.length : Int), L.zipWith (fun x b => ⟨x.Id, x.Route, b⟩) bl) := by
  intro fk
  induction fk with
  | zero => intro i _ _ h; omega
  | succ fk ih =>
    intro i m hi hk hm h1 h2
    by_cases h : i < L.length
    · rw [hG fk i m hm h, w64_inc h (by omega)]
      refine ih (i + 1) _ h (by omega) (by rw [List.length_set]; exact hm) (fun j hj => ?_) (fun j hj => ?_)
      · rw [gd_set1 (by omega)]
        by_cases hji : j = i
        · rw [if_pos hji, h2 i (Nat.le_refl _), hji]
        · rw [if_neg hji]; exact h1 j (by omega)
      · rw [gd_set1 (by omega), if_neg (by omega)]; exact h2 j (by omega)
    · obtain rfl : i = L.length := by omega
      rw [hz fk m hm]
      congr 2
      refine gd_ext (by rw [hm, List.length_zipWith]; omega) fun j hj => ?_
      rw [gd_zip L bl (by omega) (by omega)]
      exact h1 j (by omega)
theorem implCompact_loop {fu : Nat} (p : Plan) (full : List Block) (h : Int) (b : Bool) (hf : full.length = p.Lights.length) (hn : p.Lights.length ≤ 12) (hfu : 2097153 ≤ fu) : impl_CompactPlan_L1 fu (full, h, b) fu 0 p.Lights = some ((p.Lights.length : Int), (withB p full).Lights) := by
  have := blocks_loop p.Lights full hf (by omega) (fun fk i m => impl_CompactPlan_L1 fu (full, h, b) fk i m)
    (fun fk i m hm hi => by
      show impl_CompactPlan_L1 fu (full, h, b) (fk + 1) i m = _
      rw [impl_CompactPlan_L1, if_pos (show decide ((i : Int) < (full.length : Int)) = true by rw [decide_eq_true_eq]; omega), idx_gd b0 (show i < full.length by omega), Option.bind_some, idx_gd l0 (show i < m.length by omega), Option.bind_some, Int.toNat_natCast])
    (fun fk m hm => by
      show impl_CompactPlan_L1 fu (full, h, b) (fk + 1) p.Lights.length m = _
      rw [impl_CompactPlan_L1, if_neg (show ¬ decide (((p.Lights.length : Nat) : Int) < (full.length : Int)) = true by rw [decide_eq_true_eq]; omega)])
    fu 0 p.Lights (by omega) (by omega) rfl (fun j hj => by omega) (fun j _ => rfl)
  exact this
end AT

namespace AT
def blks (p : Plan) : List Block := p.Lights.map fun x => x.Block
def hgtP (p : Plan) : Int := hgt (blks p)
theorem gd_map {α β : Type} (f : α → β) (l : List α) {i : Nat} (h : i < l.length) (d : β) (e : α) : gd (l.map f) i d = f (gd l i e) := by
  rw [gd_in d (by rw [List.length_map]; exact h), gd_in e h, List.getElem_map]
theorem gd_blks (p : Plan) {i : Nat} (h : i < p.Lights.length) : gd (blks p) i b0 = (gd p.Lights i l0).Block := gd_map _ _ h _ _
theorem gd_reqs (p : Plan) {i : Nat} (h : i < p.Lights.length) : gd (reqsOf p) i r0 = ⟨(gd p.Lights i l0).Route, (gd p.Lights i l0).Block.Count⟩ := gd_map (fun x : Light => (⟨x.Route, x.Block.Count⟩ : Request)) _ h _ l0
theorem blks_len (p : Plan) : (blks p).length = p.Lights.length := by simp [blks]
theorem light_blk {p : Plan} (hp : planOk p = true) {i : Nat} (h : i < p.Lights.length) : blkOk (gd p.Lights i l0).Block = true := by
  have := (planOk_iff.1 hp).2.2.1 _ (gd_mem l0 h)
  unfold lightOk at this
  simp only [Bool.and_eq_true] at this
  exact this.2.2
theorem pair_at {p : Plan} (hp : planOk p = true) {i k : Nat} (hk : k < i) (hi : i < p.Lights.length) : (gd p.Lights k l0).Id < (gd p.Lights i l0).Id ∧ coll (gd p.Lights k l0) (gd p.Lights i l0) = false := by
  have := (planOk_iff.1 hp).2.2.2
  rw [List.pairwise_iff_getElem] at this
  rw [gd_in l0 (show k < p.Lights.length by omega), gd_in l0 hi]
  exact this k i (by omega) hi hk
theorem plan_as {p q : Plan} (hq : planOk q = true) (hlen : q.Lights.length = p.Lights.length) (hat : ∀ i, i < p.Lights.length → (gd q.Lights i l0).Route = (gd p.Lights i l0).Route ∧ (gd q.Lights i l0).Block.Count = (gd p.Lights i l0).Block.Count) : As (reqsOf p) 24 (blks q) := by
  intro i hi
  rw [blks_len] at hi
  have hi' : i < p.Lights.length := by omega
  have hb := light_blk hq hi
  obtain ⟨a1, a2⟩ := hat i hi'
  rw [gd_blks q hi, gd_reqs p hi']
  have hb2 := hb
  unfold blkOk at hb2
  simp only [Bool.and_eq_true, decide_eq_true_eq] at hb2
  refine ⟨a2, by omega, by omega, fun k hk hc => ?_⟩
  have hk' : k < p.Lights.length := by omega
  rw [gd_blks q (by omega)]
  rw [gd_reqs p hk'] at hc
  have := (pair_at hq hk hi).2
  rw [coll_apart, (hat k hk').1, a1] at this
  have hm : meets (gd p.Lights k l0).Route.Fibers (gd p.Lights i l0).Route.Fibers = true := by
    rw [meets_comm]; exact hc
  rw [hm, Bool.true_and, Bool.not_eq_false'] at this
  rw [apart_comm]
  exact this
theorem withB_ok {p : Plan} (hp : planOk p = true) {bl : List Block} {h : Int} (hh : h ≤ 24) (hA : As (reqsOf p) h bl) (hbl : bl.length = p.Lights.length) : planOk (withB p bl) = true := by
  obtain ⟨n1, n2, n3, n4⟩ := planOk_iff.1 hp
  have hlen : (withB p bl).Lights.length = p.Lights.length := by
    show (p.Lights.zipWith _ bl).length = _
    rw [List.length_zipWith]; omega
  have hat : ∀ i, i < p.Lights.length → gd (withB p bl).Lights i l0 = ⟨(gd p.Lights i l0).Id, (gd p.Lights i l0).Route, gd bl i b0⟩ := fun i hi => gd_zip p.Lights bl hi (by omega)
  have hblk : ∀ i, i < p.Lights.length → blkOk (gd bl i b0) = true := by
    intro i hi
    obtain ⟨a1, a2, a3, -⟩ := hA i (by omega)
    have := light_blk hp hi
    rw [gd_reqs p hi] at a1
    simp only at a1
    unfold blkOk at this ⊢
    simp only [Bool.and_eq_true, decide_eq_true_eq] at this ⊢
    omega
  refine planOk_iff.2 ⟨n1, by rw [hlen]; exact n2, fun x hx => ?_, ?_⟩
  · obtain ⟨i, hi, rfl⟩ := List.mem_iff_getElem.1 hx
    rw [← gd_in l0 hi, hat i (by omega)]
    have hi' : i < p.Lights.length := by omega
    have := n3 _ (gd_mem l0 hi')
    unfold lightOk at this ⊢
    simp only [Bool.and_eq_true, decide_eq_true_eq] at this ⊢
    exact ⟨this.1, this.2.1, hblk i hi'⟩
  · rw [List.pairwise_iff_getElem]
    intro a b ha hb hab
    rw [← gd_in l0 ha, ← gd_in l0 hb, hat a (by omega), hat b (by omega)]
    have hb' : b < p.Lights.length := by omega
    refine ⟨(pair_at hp hab hb').1, ?_⟩
    rw [coll_apart]
    cases hm : meets (gd p.Lights a l0).Route.Fibers (gd p.Lights b l0).Route.Fibers
    · rfl
    · rw [Bool.true_and, Bool.not_eq_false']
      obtain ⟨-, -, -, a4⟩ := hA b (by omega)
      have := a4 a hab (by
        rw [gd_reqs p hb', gd_reqs p (show a < p.Lights.length by omega)]
        show meets _ _ = true
        rw [meets_comm]; exact hm)
      rw [apart_comm]
      exact this
theorem blks_withB {p : Plan} {bl : List Block} (hbl : bl.length = p.Lights.length) : blks (withB p bl) = bl := by
  refine List.ext_getElem (by rw [blks_len]; show (p.Lights.zipWith _ bl).length = _; rw [List.length_zipWith]; omega) fun i h1 h2 => ?_
  simp [blks, withB]
theorem hgtP_eq {fu : Nat} (hfu : 2097153 ≤ fu) {p : Plan} (hp : planOk p = true) : impl_planHeight fu p = some (hgtP p) := by
  have h12 := (planF hp).short
  have key : ∀ (fk i : Nat) (m : Int), i ≤ p.Lights.length → p.Lights.length - i < fk → impl_planHeight_L1 fu p fk m i = some (((p.Lights.drop i).map fun x => x.Block).foldl (fun m b => gmax m (b.First + b.Count)) m, (p.Lights.length : Int)) := by
    intro fk
    induction fk with
    | zero => intro i _ _ h; omega
    | succ fk ih =>
      intro i m hi hk
      rw [impl_planHeight_L1]
      by_cases h : i < p.Lights.length
      · have hb := light_blk hp h
        rw [gd_in l0 h] at hb
        unfold blkOk at hb
        simp only [Bool.and_eq_true, decide_eq_true_eq] at hb
        have hw : w64 (p.Lights[i].Block.First + p.Lights[i].Block.Count) = p.Lights[i].Block.First + p.Lights[i].Block.Count := w64_in (by omega) (by omega)
        rw [if_pos (by simpa using h), idx_in h, Option.bind_some, hw, w64_inc h (by omega), ih (i + 1) _ h (by omega), ← List.getElem_cons_drop h, List.map_cons, List.foldl_cons]
      · obtain rfl : i = p.Lights.length := by omega
        rw [if_neg (by simp), List.drop_length]
        rfl
  unfold impl_planHeight
  have := key fu 0 0 (by omega) (by omega)
  rw [show ((0 : Nat) : Int) = 0 from rfl, List.drop_zero] at this
  rw [this]
  rfl
theorem planHeight_eq {fu : Nat} (hfu : 2097153 ≤ fu) {p : Plan} (hB : PlanB p) (hp : planOk p = true) : impl_PlanHeight fu p = some (hgtP p, true) := by
  unfold impl_PlanHeight
  rw [implPlan_eq hfu p hB, hp, Option.bind_some, hgtP_eq hfu hp]
  rfl
theorem withB_B {p : Plan} (hB : PlanB p) (bl : List Block) : PlanB (withB p bl) := by
  refine ⟨hB.1, ?_, fun x hx => ?_⟩
  · show (p.Lights.zipWith _ bl).length ≤ 2097152
    rw [List.length_zipWith]
    exact Nat.le_trans (Nat.min_le_left _ _) hB.2.1
  · obtain ⟨i, hi, rfl⟩ := List.mem_iff_getElem.1 hx
    have hi' : i < p.Lights.length ∧ i < bl.length := by
      have : i < (p.Lights.zipWith (fun x b => (⟨x.Id, x.Route, b⟩ : Light)) bl).length := hi
      rw [List.length_zipWith] at this
      omega
    have e : (withB p bl).Lights[i] = ⟨p.Lights[i].Id, p.Lights[i].Route, bl[i]⟩ := List.getElem_zipWith
    rw [e]
    have := hB.2.2 _ (List.getElem_mem hi'.1)
    exact this
end AT

namespace AT
structure Cur (c : L1CurP) (k : Int) : Prop where
  by_ : ∀ e ∈ c.code, 0 ≤ e.n ∧ e.n ≤ 255
  len : c.code.length ≤ 65536
  lo : 0 ≤ c.at_
  hi : c.at_ ≤ k
theorem and255 (q : Int) : 0 ≤ andu64 q 255 ∧ andu64 q 255 ≤ 255 := by
  unfold andu64
  have h : (BitVec.ofInt 64 q &&& BitVec.ofInt 64 255).toNat ≤ 255 := by
    rw [BitVec.toNat_and]
    exact Nat.le_trans Nat.and_le_right (by decide)
  unfold wu64
  omega
theorem next_ok {fu : Nat} {c : L1CurP} {k : Int} (hc : Cur c k) (hk : k ≤ 4611686018427387904) : ∃ r c', spec_l1Cur_next fu c = some (r, c') ∧ 0 ≤ r ∧ r ≤ 255 ∧ Cur c' (k + 1) := by
  have h0 := hc.lo
  have h1 := hc.hi
  have hl := hc.len
  have e1 : w64 (c.at_ + 1) = c.at_ + 1 := w64_in (by omega) (by omega)
  unfold spec_l1Cur_next
  have hsh : ∀ x : Int, shrk 64 x 40 = some (x.fdiv (2 ^ (min (40 : Int).toNat 64))) := fun x => by unfold shrk; rw [if_neg (by omega)]
  simp only [e1, hsh, Option.bind_some]
  have hcur : ∀ s, Cur ⟨c.code, c.at_ + 1, s⟩ (k + 1) := fun s => ⟨hc.by_, hc.len, by simp only; omega, by simp only; omega⟩
  have ha : ∀ q : Int, 0 ≤ w64 (andu64 q 255) ∧ w64 (andu64 q 255) ≤ 255 := fun q => by
    have := and255 q
    rw [w64_in (by omega) (by omega)]; exact this
  by_cases h : c.at_ < c.code.length
  · simp only [h, decide_true, if_true]
    obtain ⟨e, he, hm⟩ := idx_some (l := c.code) (i := c.at_) h0 h
    have hb := hc.by_ e hm
    have e2 : w64 e.n = e.n := w64_in (by omega) (by omega)
    simp only [he, Option.bind_some, e2]
    split
    · exact ⟨_, _, rfl, hb.1, hb.2, hcur _⟩
    · exact ⟨_, _, rfl, (ha _).1, (ha _).2, hcur _⟩
  · simp only [h, decide_false, Bool.false_eq_true, if_false]
    split
    · exact ⟨_, _, rfl, by omega, by omega, hcur _⟩
    · exact ⟨_, _, rfl, (ha _).1, (ha _).2, hcur _⟩
theorem Cur.mono {c : L1CurP} {k k' : Int} (hc : Cur c k) (h : k ≤ k') : Cur c k' := ⟨hc.by_, hc.len, hc.lo, Int.le_trans hc.hi h⟩
theorem pick_ok {fu : Nat} {c : L1CurP} {k : Int} (hc : Cur c k) (hk : k ≤ 4611686018427387000) (n : Int) (hn : n ≤ 1099511627776) : ∃ r c', spec_l1Cur_pick fu c n = some (r, c') ∧ 0 ≤ r ∧ (1 ≤ n → r < n) ∧ Cur c' (k + 2) := by
  unfold spec_l1Cur_pick
  by_cases h : n ≤ 1
  · simp only [h, decide_true, if_true]
    exact ⟨_, _, rfl, by omega, by omega, hc.mono (by omega)⟩
  · simp only [h, decide_false, Bool.false_eq_true, if_false]
    obtain ⟨r, c', g1, g2, g3, g4⟩ := next_ok (fu := fu) hc (by omega)
    simp only [g1, Option.bind_some]
    have hr : ∀ x : Int, 0 ≤ x → ∃ q, rem x n = some q ∧ 0 ≤ q ∧ q < n := fun x hx => by
      unfold rem
      rw [if_neg (by omega), Int.tmod_eq_emod_of_nonneg hx]
      exact ⟨_, rfl, Int.emod_nonneg _ (by omega), Int.emod_lt_of_pos _ (by omega)⟩
    by_cases h2 : n > 200
    · simp only [h2, decide_true, if_true]
      obtain ⟨r2, c2, q1, q2, q3, q4⟩ := next_ok (fu := fu) g4 (by omega)
      simp only [q1, Option.bind_some]
      rw [w64_in (n := r * 256) (by omega) (by omega), w64_in (by omega) (by omega)]
      obtain ⟨q, p1, p2, p3⟩ := hr (r * 256 + r2) (by omega)
      rw [p1]
      exact ⟨_, _, rfl, p2, fun _ => p3, q4.mono (by omega)⟩
    · simp only [h2, decide_false, Bool.false_eq_true, if_false]
      obtain ⟨q, p1, p2, p3⟩ := hr r g2
      rw [p1]
      exact ⟨_, _, rfl, p2, fun _ => p3, g4.mono (by omega)⟩
theorem among_ok {fu : Nat} {c : L1CurP} {k : Int} (hc : Cur c k) (hk : k ≤ 4611686018427387000) (l : List Int) (h1 : 1 ≤ l.length) (hn : l.length ≤ 1099511627776) : ∃ r c', spec_l1Cur_among fu c l = some (r, c') ∧ r ∈ l ∧ Cur c' (k + 2) := by
  unfold spec_l1Cur_among
  obtain ⟨r, c', g1, g2, g3, g4⟩ := pick_ok (fu := fu) hc hk (l.length : Int) (by omega)
  obtain ⟨e, he, hm⟩ := idx_some (l := l) (i := r) g2 (g3 (by omega))
  simp only [g1, Option.bind_some, he]
  exact ⟨_, _, rfl, hm, g4⟩
theorem start_cur {code : List By} (h : ∀ e ∈ code, 0 ≤ e.n ∧ e.n ≤ 255) (hl : code.length ≤ 65536) : Cur ⟨code, 0, ⟨0⟩⟩ 0 := ⟨h, hl, Int.le_refl _, Int.le_refl _⟩
end AT

namespace AT
end AT

namespace AT
theorem find_loop {α : Type} {l : List α} {G : Nat → Int → Option Int} (p : α → Bool) (hn : (l.length : Int) ≤ 9223372036854775807)
    (hG : ∀ fk (i : Nat) (h : i < l.length), G (fk + 1) i = if p l[i] = true then some (i : Int) else G fk (w64 ((i : Int) + 1)))
    (hz : ∀ fk, G (fk + 1) l.length = some (l.length : Int)) : ∀ (fk i : Nat), l.length - i < fk → i ≤ l.length → G fk i = some ((i + (l.drop i).findIdx p : Nat) : Int) := by
  intro fk
  induction fk with
  | zero => intro i h; omega
  | succ fk ih =>
    intro i hk hi
    by_cases h : i < l.length
    · rw [hG fk i h, ← List.getElem_cons_drop h, List.findIdx_cons]
      by_cases hp : p l[i] = true
      · simp [hp]
      · simp only [hp, Bool.false_eq_true, if_false, cond_false]
        rw [w64_inc h hn, ih (i + 1) (by omega) h]
        congr 2
        omega
    · obtain rfl : i = l.length := by omega
      rw [hz, List.drop_length]; rfl
theorem find_all {α : Type} {l : List α} {G : Nat → Int → Option Int} (p : α → Bool) (hn : (l.length : Int) ≤ 9223372036854775807)
    (hG : ∀ fk (i : Nat) (h : i < l.length), G (fk + 1) i = if p l[i] = true then some (i : Int) else G fk (w64 ((i : Int) + 1)))
    (hz : ∀ fk, G (fk + 1) l.length = some (l.length : Int)) (fk : Nat) (hk : l.length < fk) : G fk 0 = some ((l.findIdx p : Nat) : Int) := by
  have := find_loop p hn hG hz fk 0 (by omega) (by omega)
  simpa using this
def insAt (L : List Light) (id : Int) : Nat := L.findIdx fun y => !decide (y.Id < id)
def putL (L : List Light) (x : Light) : List Light := L.take (insAt L x.Id) ++ x :: L.drop (insAt L x.Id)
theorem insAt_le (L : List Light) (id : Int) : insAt L id ≤ L.length := List.findIdx_le_length
theorem putL_len (L : List Light) (x : Light) : (putL L x).length = L.length + 1 := by
  have := insAt_le L x.Id
  unfold putL
  rw [List.length_append, List.length_cons, List.length_take, List.length_drop]
  omega
theorem putL_mem {L : List Light} {x y : Light} : y ∈ putL L x ↔ y = x ∨ y ∈ L := by
  unfold putL
  rw [List.mem_append, List.mem_cons]
  constructor
  · rintro (h | h | h)
    · exact .inr (List.mem_of_mem_take h)
    · exact .inl h
    · exact .inr (List.mem_of_mem_drop h)
  · rintro (h | h)
    · exact .inr (.inl h)
    · rw [← List.take_append_drop (insAt L x.Id) L, List.mem_append] at h
      rcases h with h | h
      · exact .inl h
      · exact .inr (.inr h)
end AT

namespace AT
def addP (p : Plan) (x : Light) : Plan := { Network := p.Network, Lights := putL p.Lights x }
theorem insAt_loop (L : List Light) (id : Int) (G : Nat → Int → Option Int) (hl : L.length ≤ 2097152) (hG : ∀ fk i, G (fk + 1) i = ((if decide (i < (L.length : Int)) = true then (idx L i).bind fun e => some (decide (e.Id < id)) else some false).bind fun c => if c = true then G fk (w64 (i + 1)) else some i)) (fu : Nat) (hfu : 2097153 ≤ fu) : G fu 0 = some ((insAt L id : Nat) : Int) :=
  find_all (l := L) (G := G) (fun y => !decide (y.Id < id)) (by omega)
    (fun fk i hi => by
      have h' : (i : Int) < (L.length : Int) := by omega
      rw [hG]
      simp only [h', decide_true, if_true, idx_in hi, Option.bind_some]
      by_cases hc : L[i].Id < id <;> simp [hc])
    (fun fk => by rw [hG]; simp) fu (by omega)
theorem l9Put_eq {fu : Nat} (hfu : 2097153 ≤ fu) (p : Plan) (x : Light) (hB : PlanB p) (hx : x.Route.Fibers.length ≤ 2097152) : spec_l9Put fu p x = some (addP p x) := by
  have hl := hB.2.1
  have hi := insAt_le p.Lights x.Id
  unfold spec_l9Put
  rw [l9Own_eq hfu p hB, Option.bind_some, insAt_loop p.Lights x.Id (spec_l9Put_L1 fu x p) hl (fun fk i => by rw [spec_l9Put_L1]) fu hfu, Option.bind_some, sub_take hi, Option.bind_some]
  have hs : sub p.Lights ((insAt p.Lights x.Id : Nat) : Int) (p.Lights.length : Int) = some (p.Lights.drop (insAt p.Lights x.Id)) := by
    unfold sub
    rw [if_pos (by omega)]
    simp
  rw [hs, Option.bind_some, app_nil (by rw [List.length_take]; omega), Option.bind_some, l9Copy_eq fu x hx, Option.bind_some, app_ok (by rw [List.length_take, List.length_singleton]; omega), Option.bind_some, app_ok (by rw [List.length_append, List.length_take, List.length_singleton, List.length_drop]; omega), Option.bind_some, List.append_assoc, List.singleton_append]
  rfl
end AT

namespace AT
structure NetD (n : Network) : Prop where
  n1 : 1 ≤ n.Nodes.length
  n2 : n.Nodes.length ≤ 20
  ns : ∀ e ∈ n.Nodes, e.size ≤ 100
  f2 : n.Fibers.length ≤ 20
theorem NetD.B {n : Network} (h : NetD n) : NetB n := ⟨⟨by have := h.n2; omega, fun e he => by have := h.ns e he; omega⟩, by have := h.f2; omega⟩
theorem rem_ok {a n : Int} (ha : 0 ≤ a) (hn : 0 < n) : ∃ q, rem a n = some q ∧ 0 ≤ q ∧ q < n := by
  unfold rem
  rw [if_neg (by omega), Int.tmod_eq_emod_of_nonneg ha]
  exact ⟨_, rfl, Int.emod_nonneg _ (by omega), Int.emod_lt_of_pos _ hn⟩
theorem app1 {α : Type} {l : List α} {x : α} (h : l.length ≤ 1000000) : app l [x] = some (l ++ [x]) := app_ok (by simp; omega)
theorem least_ex (fu : Nat) (a b : Int) : ∃ r, spec_l1Least fu a b = some r ∧ (r = a ∨ r = b) := by
  unfold spec_l1Least; split <;> exact ⟨_, rfl, by simp⟩
theorem most_ex (fu : Nat) (a b : Int) : ∃ r, spec_l1Most fu a b = some r ∧ (r = a ∨ r = b) := by
  unfold spec_l1Most; split <;> exact ⟨_, rfl, by simp⟩
theorem l2Put_loop {fu : Nat} (l : List Fiber) (f : Fiber) (hl : l.length ≤ 1000000) : ∀ (fk i : Nat), i ≤ l.length → l.length - i < fk → ∃ j : Nat, spec_l2Put_L1 fu l f fk i = some (j : Int) ∧ j ≤ l.length := by
  intro fk
  induction fk with
  | zero => intro i _ h; omega
  | succ fk ih =>
    intro i hi hf
    rw [spec_l2Put_L1]
    by_cases h : i < l.length
    · have hlt : ((i : Int) < (l.length : Int)) = True := by simp; omega
      simp only [hlt, decide_true, if_true, idx_in h, Option.bind_some, l2Before_eq, w64_inc h (show (l.length : Int) ≤ 9223372036854775807 by omega)]
      split
      · exact ih (i + 1) h (by omega)
      · exact ⟨i, rfl, hi⟩
    · have hlt : ((i : Int) < (l.length : Int)) = False := by simp; omega
      simp only [hlt, decide_false, Bool.false_eq_true, if_false, Option.bind_some]
      exact ⟨i, rfl, hi⟩
theorem l2Put_ok {fu : Nat} (hfu : 2097153 ≤ fu) (l : List Fiber) (f : Fiber) (hl : l.length ≤ 1000000) : ∃ r, spec_l2Put fu l f = some r ∧ r.length = l.length + 1 := by
  unfold spec_l2Put
  obtain ⟨j, h1, h2⟩ := l2Put_loop (fu := fu) l f hl fu 0 (by omega) (by omega)
  have hs : sub l (j : Int) (l.length : Int) = some (l.drop j) := by
    unfold sub
    rw [if_pos (by omega)]
    simp
  rw [show ((0 : Nat) : Int) = 0 from rfl] at h1
  rw [h1, Option.bind_some, sub_take h2, Option.bind_some, hs, Option.bind_some, app_nil (by rw [List.length_take]; omega), Option.bind_some, app_ok (by rw [List.length_take, List.length_singleton]; omega), Option.bind_some, app_ok (by rw [List.length_append, List.length_take, List.length_singleton, List.length_drop]; omega), Option.bind_some]
  refine ⟨_, rfl, ?_⟩
  simp only [List.length_append, List.length_take, List.length_singleton, List.length_drop]
  omega
theorem net_loop1 {fu : Nat} (hfu : 2097153 ≤ fu) (y : Int × L1CurP) (K : Nat) (hK : w64 (2 + y.1) = (K : Int)) (h2 : 2 ≤ K) (h6 : K ≤ 6) : ∀ (fk i : Nat) (m : List By) (m2 : Int) (m3 : U64) (l : List Fiber) (k B : Int), Cur ⟨m, m2, m3⟩ k → k ≤ B + 10 * (i : Int) → B ≤ 1000000000 → l.length ≤ i → i ≤ K → K - i < fk →
    ∃ i' m' a' s' l', spec_l1Cur_network_L1 fu y fk i m m2 m3 l = some (i', m', a', s', l') ∧ l'.length ≤ K ∧ Cur ⟨m', a', s'⟩ (B + 10 * (K : Int)) := by
  intro fk
  induction fk with
  | zero => intro i _ _ _ _ _ _ _ _ _ _ _ h; omega
  | succ fk ih =>
    intro i m m2 m3 l k B hc hk hB hl hi hf
    rw [spec_l1Cur_network_L1, hK]
    by_cases h : i < K
    · have hlt : ((i : Int) < (K : Int)) = True := by simp; omega
      have e : w64 ((i : Int) + 1) = ((i + 1 : Nat) : Int) := w64_inc h (by omega)
      obtain ⟨q, hq, q0, q1⟩ := rem_ok (a := ((i + 1 : Nat) : Int)) (n := (K : Int)) (by omega) (by omega)
      obtain ⟨r1, c1, g1, -, -, k1⟩ := pick_ok (fu := fu) hc (by omega) 10 (by decide)
      simp only [hlt, decide_true, if_true, e, hq, Option.bind_some, spec_l1Cur_one, g1]
      have k1' : Cur ⟨c1.code, c1.at_, c1.seed⟩ (k + 2) := k1
      split
      · exact ih (i + 1) _ _ _ _ k B hc (by omega) hB (by omega) h (by omega)
      · split
        · exact ih (i + 1) _ _ _ _ (k + 2) B k1' (by omega) hB (by omega) h (by omega)
        · obtain ⟨r3, g3, -⟩ := least_ex fu (i : Int) q
          obtain ⟨r4, g4, -⟩ := most_ex fu (i : Int) q
          obtain ⟨r5, c5, g5, -, -, k5⟩ := pick_ok (fu := fu) k1 (by omega) 8 (by decide)
          obtain ⟨r6, c6, g6, -, k6⟩ := among_ok (fu := fu) k5 (by omega) [0, 0, 0, 1, 2] (by decide) (by decide)
          obtain ⟨r7, g7, h7⟩ := l2Put_ok hfu l ({ A := r3, B := r4, Length := w64 (100 * (w64 (1 + r5))), Risk := r6 } : Fiber) (by omega)
          simp only [g3, g4, g5, g6, g7, Option.bind_some]
          exact ih (i + 1) _ _ _ _ (k + 2 + 2 + 2) B k6 (by omega) hB (by omega) h (by omega)
    · obtain rfl : i = K := by omega
      have hlt : ((i : Int) < (i : Int)) = False := by simp
      simp only [hlt, decide_false, Bool.false_eq_true, if_false]
      exact ⟨_, _, _, _, _, rfl, hl, hc.mono (by omega)⟩
theorem net_loop2 {fu : Nat} (hfu : 2097153 ≤ fu) (y : Int × L1CurP) (K : Nat) (hK : w64 (2 + y.1) = (K : Int)) (h2 : 2 ≤ K) (h6 : K ≤ 6) : ∀ (fk n : Nat) (l : List Fiber) (m : List By) (m2 : Int) (m3 : U64) (k B : Int), Cur ⟨m, m2, m3⟩ k → k ≤ B - 10 * (n : Int) → B ≤ 1000000000 → l.length + n ≤ 9 → n < fk →
    ∃ i' l' m' a' s', spec_l1Cur_network_L2 fu y fk (n : Int) l m m2 m3 = some (i', l', m', a', s') ∧ l'.length ≤ 9 ∧ l.length ≤ l'.length ∧ Cur ⟨m', a', s'⟩ B := by
  intro fk
  induction fk with
  | zero => intro n _ _ _ _ _ _ _ _ _ _ h; omega
  | succ fk ih =>
    intro n l m m2 m3 k B hc hk hB hl hf
    rw [spec_l1Cur_network_L2, hK]
    by_cases h : 0 < n
    · have hlt : ((n : Int) > 0) = True := by simp; omega
      have e : w64 ((n : Int) - 1) = ((n - 1 : Nat) : Int) := w64_dec h (by omega)
      obtain ⟨r1, c1, g1, -, -, k1⟩ := pick_ok (fu := fu) hc (by omega) (K : Int) (by omega)
      obtain ⟨r2, c2, g2, -, -, k2⟩ := pick_ok (fu := fu) k1 (by omega) (K : Int) (by omega)
      simp only [hlt, decide_true, if_true, e, g1, g2, Option.bind_some]
      split
      · obtain ⟨r3, g3, -⟩ := least_ex fu r1 r2
        obtain ⟨r4, g4, -⟩ := most_ex fu r1 r2
        obtain ⟨r5, c5, g5, -, -, k5⟩ := pick_ok (fu := fu) k2 (by omega) 8 (by decide)
        obtain ⟨r6, c6, g6, -, k6⟩ := among_ok (fu := fu) k5 (by omega) [0, 0, 0, 1, 2] (by decide) (by decide)
        obtain ⟨r7, g7, h7⟩ := l2Put_ok hfu l ({ A := r3, B := r4, Length := w64 (100 * (w64 (1 + r5))), Risk := r6 } : Fiber) (by omega)
        simp only [g3, g4, g5, g6, g7, Option.bind_some]
        obtain ⟨i', l', m', a', s', q1, q2, q3, q4⟩ := ih (n - 1) r7 _ _ _ (k + 2 + 2 + 2 + 2) B k6 (by omega) hB (by omega) (by omega)
        exact ⟨i', l', m', a', s', q1, q2, by omega, q4⟩
      · exact ih (n - 1) _ _ _ _ (k + 2 + 2) B k2 (by omega) hB (by omega) (by omega)
    · obtain rfl : n = 0 := by omega
      rw [if_neg (by simp)]
      exact ⟨_, _, _, _, _, rfl, by omega, Nat.le_refl _, hc.mono (by omega)⟩
theorem network_ok {fu : Nat} (hfu : 2097153 ≤ fu) {c : L1CurP} {k : Int} (hc : Cur c k) (hk : k ≤ 900000000) : ∃ r c', spec_l1Cur_network fu c = some (r, c') ∧ NetD r ∧ r.Nodes.length ≤ 6 ∧ r.Fibers.length ≤ 9 ∧ Cur c' (k + 200) := by
  unfold spec_l1Cur_network
  obtain ⟨r1, c1, g1, p0, p1, k1⟩ := pick_ok (fu := fu) hc (by omega) 5 (by decide)
  have p2 := p1 (by decide)
  have hK : w64 (2 + r1) = (((2 + r1).toNat : Nat) : Int) := by rw [w64_in (by omega) (by omega)]; omega
  have hK2 : 2 ≤ (2 + r1).toNat := by omega
  have hK6 : (2 + r1).toNat ≤ 6 := by omega
  obtain ⟨i2, m2, a2, s2, l2, g2, h2, k2⟩ := net_loop1 hfu (r1, c1) (2 + r1).toNat hK hK2 hK6 fu 0 c1.code c1.at_ c1.seed [] (k + 2) (k + 2) k1 (by omega) (by omega) (by simp) (by omega) (by omega)
  obtain ⟨r3, c3, g3, q0, q1, k3⟩ := pick_ok (fu := fu) k2 (by omega) 4 (by decide)
  have q2 := q1 (by decide)
  obtain ⟨i4, l4, m4, a4, s4, g4, h4, -, k4⟩ := net_loop2 hfu (r1, c1) (2 + r1).toNat hK hK2 hK6 fu r3.toNat l2 c3.code c3.at_ c3.seed (k + 2 + 10 * ((2 + r1).toNat : Int) + 2) (k + 200) k3 (by omega) (by omega) (by omega) (by omega)
  rw [Int.ofNat_zero] at g2
  rw [Int.toNat_of_nonneg q0] at g4
  simp only [g1, Option.bind_some, hK]
  rw [sub_take (by simp; omega)]
  simp only [g2, g3, g4, Option.bind_some]
  refine ⟨_, _, rfl, ⟨by simp; omega, by simp; omega, fun e he => ?_, by simp only; omega⟩, by simp; omega, h4, k4⟩
  have he' := List.mem_of_mem_take he
  simp only [List.mem_cons, List.not_mem_nil, or_false] at he'
  rcases he' with rfl | rfl | rfl | rfl | rfl | rfl <;> decide
theorem linked_ok {fu : Nat} (hfu : 2097153 ≤ fu) {c : L1CurP} {k : Int} (hc : Cur c k) (hk : k ≤ 900000000) : ∃ r c', spec_l1Cur_linked fu c = some (r, c') ∧ NetD r ∧ 1 ≤ r.Fibers.length ∧ Cur c' (k + 200) := by
  unfold spec_l1Cur_linked
  obtain ⟨r, c', g1, h1, h2, h3, k1⟩ := network_ok hfu hc hk
  simp only [g1, Option.bind_some]
  split
  · rename_i h
    have h0 : r.Fibers.length = 0 := by simpa using h
    rw [app1 (by omega)]
    exact ⟨_, _, rfl, ⟨h1.n1, h1.n2, h1.ns, by simp; omega⟩, by simp, k1⟩
  · rename_i h
    have h0 : r.Fibers.length ≠ 0 := by simpa using h
    exact ⟨_, _, rfl, h1, by omega, k1⟩
theorem route_loop2 {fu : Nat} (hfu : 2097153 ≤ fu) (n : Network) (y : Int × L1CurP) (seen : List Int) (hn : n.Fibers.length ≤ 1000000) (h1 : 1 ≤ seen.length) (h2 : seen.length ≤ 1000000) : ∀ (fk i : Nat) (o : List Int), i ≤ n.Fibers.length → n.Fibers.length - i < fk → o.length ≤ i → (∀ e ∈ o, 0 ≤ e ∧ e < (n.Fibers.length : Int)) →
    ∃ l i', spec_l1Cur_route_L2 fu n y seen fk o i = some (l, i') ∧ l.length ≤ n.Fibers.length ∧ ∀ e ∈ l, 0 ≤ e ∧ e < (n.Fibers.length : Int) := by
  intro fk
  induction fk with
  | zero => intro i _ _ h; omega
  | succ fk ih =>
    intro i o hi hf ho hr
    rw [spec_l1Cur_route_L2]
    by_cases h : i < n.Fibers.length
    · have hlt : ((i : Int) < (n.Fibers.length : Int)) = True := by simp; omega
      have e1 : w64 ((seen.length : Int) - 1) = ((seen.length - 1 : Nat) : Int) := by rw [w64_in (by omega) (by omega)]; omega
      have hh : ∀ v, spec_l1Has fu seen v = some (seen.any fun x => x == v) := fun v => l1Has_eq seen v (by omega) (by omega)
      have ha : app o [(i : Int)] = some (o ++ [(i : Int)]) := app1 (by omega)
      simp only [hlt, decide_true, if_true, e1, idx_in (show seen.length - 1 < seen.length by omega), Option.bind_some, l2Other_eq fu n i _ h, hh, ha, w64_inc h (show (n.Fibers.length : Int) ≤ 9223372036854775807 by omega)]
      have two : ∀ b : Bool, ∃ l i', (if b = true then spec_l1Cur_route_L2 fu n y seen fk (o ++ [(i : Int)]) ((i + 1 : Nat) : Int) else spec_l1Cur_route_L2 fu n y seen fk o ((i + 1 : Nat) : Int)) = some (l, i') ∧ l.length ≤ n.Fibers.length ∧ ∀ e ∈ l, 0 ≤ e ∧ e < (n.Fibers.length : Int) := by
        intro b
        cases b
        · exact ih (i + 1) o h (by omega) (by omega) hr
        · refine ih (i + 1) _ h (by omega) (by simp; omega) fun e he => ?_
          rcases List.mem_append.1 he with he | he
          · exact hr e he
          · simp only [List.mem_singleton] at he
            omega
      split
      · exact two _
      · exact two false
    · obtain rfl : i = n.Fibers.length := by omega
      rw [if_neg (by simp)]
      exact ⟨_, _, rfl, ho, hr⟩
theorem route_loop1 {fu : Nat} (hfu : 2097153 ≤ fu) (n : Network) (y : Int × L1CurP) (hn : n.Fibers.length ≤ 1000) : ∀ (fk m : Nat) (seen l : List Int) (b : List By) (a : Int) (s : U64) (k B : Int), Cur ⟨b, a, s⟩ k → k ≤ B - 2 * (m : Int) → B ≤ 1000000000 → 1 ≤ seen.length → seen.length + m ≤ 1000 → l.length + m ≤ 4 → (∀ e ∈ l, 0 ≤ e ∧ e < (n.Fibers.length : Int)) → m < fk →
    ∃ s2 m2 l' b' a' s', spec_l1Cur_route_L1 fu n y fk seen (m : Int) l b a s = some (s2, m2, l', b', a', s') ∧ l'.length ≤ 4 ∧ (∀ e ∈ l', 0 ≤ e ∧ e < (n.Fibers.length : Int)) ∧ Cur ⟨b', a', s'⟩ B := by
  intro fk
  induction fk with
  | zero => intro m _ _ _ _ _ _ _ _ _ _ _ _ _ _ h; omega
  | succ fk ih =>
    intro m seen l b a s k B hc hk hB hs1 hs2 hl hr hf
    rw [spec_l1Cur_route_L1]
    by_cases h : 0 < m
    · have hlt : ((m : Int) > 0) = True := by simp; omega
      have e : w64 ((m : Int) - 1) = ((m - 1 : Nat) : Int) := w64_dec h (by omega)
      obtain ⟨z, zi, g1, z1, z2⟩ := route_loop2 hfu n y seen (by omega) hs1 (by omega) fu 0 [] (by omega) (by omega) (by simp) (by simp)
      rw [Int.ofNat_zero] at g1
      have e1 : w64 ((seen.length : Int) - 1) = ((seen.length - 1 : Nat) : Int) := by rw [w64_in (by omega) (by omega)]; omega
      simp only [hlt, decide_true, if_true, e, g1, Option.bind_some]
      by_cases hz : z.length = 0
      · have hz' : ((z.length : Int) == 0) = true := by simp [hz]
        simp only [hz', if_true]
        exact ⟨_, _, _, _, _, _, rfl, by omega, hr, hc.mono (by omega)⟩
      · have hz' : ((z.length : Int) == 0) = false := by simpa using hz
        obtain ⟨r1, c1, g2, p0, p1, k1⟩ := pick_ok (fu := fu) hc (by omega) (z.length : Int) (by omega)
        obtain ⟨x, hx, hxm⟩ := idx_some (l := z) (i := r1) p0 (p1 (by omega))
        obtain ⟨x0, x1⟩ := z2 x hxm
        have hxn : x = ((x.toNat : Nat) : Int) := by omega
        have ho : ∀ v, spec_l2Other fu n x v = some (oth (gd n.Fibers x.toNat f0) v) := fun v => by
          have := l2Other_eq fu n x.toNat v (by omega)
          rwa [← hxn] at this
        simp only [hz', Bool.false_eq_true, if_false, g2, Option.bind_some, hx, e1, idx_in (show seen.length - 1 < seen.length by omega), ho, app1 (show l.length ≤ 1000000 by omega), app1 (show seen.length ≤ 1000000 by omega)]
        refine ih (m - 1) _ _ _ _ _ (k + 2) B k1 (by omega) hB (by simp) (by simp; omega) (by simp; omega) (fun q hq => ?_) (by omega)
        rcases List.mem_append.1 hq with hq | hq
        · exact hr q hq
        · simp only [List.mem_singleton] at hq
          omega
    · obtain rfl : m = 0 := by omega
      rw [if_neg (by simp)]
      exact ⟨_, _, _, _, _, _, rfl, by omega, hr, hc.mono (by omega)⟩
theorem route_ok {fu : Nat} (hfu : 2097153 ≤ fu) {c : L1CurP} {k : Int} (hc : Cur c k) (hk : k ≤ 900000000) {n : Network} (hn : n.Fibers.length ≤ 1000) (hm : n.Nodes.length ≤ 1000) : ∃ r c', spec_l1Cur_route fu c n = some (r, c') ∧ r.Fibers.length ≤ 4 ∧ (∀ e ∈ r.Fibers, 0 ≤ e ∧ e < (n.Fibers.length : Int)) ∧ Cur c' (k + 20) := by
  unfold spec_l1Cur_route
  obtain ⟨r1, c1, g1, -, -, k1⟩ := pick_ok (fu := fu) hc (by omega) (n.Nodes.length : Int) (by omega)
  obtain ⟨r2, c2, g2, p0, p1, k2⟩ := pick_ok (fu := fu) k1 (by omega) 4 (by decide)
  have p2 := p1 (by decide)
  have e : w64 (1 + r2) = (((1 + r2).toNat : Nat) : Int) := by rw [w64_in (by omega) (by omega)]; omega
  obtain ⟨s3, m3, l3, b3, a3, t3, g3, h3, h4, k3⟩ := route_loop1 hfu n (r1, c1) hn fu (1 + r2).toNat [r1] [] c2.code c2.at_ c2.seed (k + 2 + 2) (k + 20) k2 (by omega) (by omega) (by simp) (by simp; omega) (by simp; omega) (by simp) (by omega)
  simp only [g1, g2, Option.bind_some, e, g3]
  exact ⟨_, _, rfl, h3, h4, k3⟩
theorem routed_ok {fu : Nat} (hfu : 2097153 ≤ fu) {c : L1CurP} {k : Int} (hc : Cur c k) (hk : k ≤ 900000000) {n : Network} (h1 : 1 ≤ n.Fibers.length) (hn : n.Fibers.length ≤ 1000) (hm : n.Nodes.length ≤ 1000) : ∃ r c', spec_l1Cur_routed fu c n = some (r, c') ∧ 1 ≤ r.Fibers.length ∧ r.Fibers.length ≤ 4 ∧ (∀ e ∈ r.Fibers, 0 ≤ e ∧ e < (n.Fibers.length : Int)) ∧ Cur c' (k + 20) := by
  unfold spec_l1Cur_routed
  obtain ⟨r, c', g1, h2, h3, k1⟩ := route_ok hfu hc hk hn hm
  simp only [g1, Option.bind_some]
  split
  · obtain ⟨e, he, -⟩ := idx_some (l := n.Fibers) (i := 0) (Int.le_refl _) (by omega)
    rw [he]
    exact ⟨_, _, rfl, by simp, by simp, by simp; omega, k1⟩
  · rename_i h
    have h0 : r.Fibers.length ≠ 0 := by simpa using h
    exact ⟨_, _, rfl, by omega, h2, h3, k1⟩
theorem anyRoute_ok {fu : Nat} (hfu : 2097153 ≤ fu) {c : L1CurP} {k : Int} (hc : Cur c k) (hk : k ≤ 900000000) {n : Network} (hn : n.Fibers.length ≤ 1000) (hm : n.Nodes.length ≤ 1000) : ∃ r c', spec_l1Cur_anyRoute fu c n = some (r, c') ∧ r.Fibers.length ≤ 5 ∧ Cur c' (k + 30) := by
  unfold spec_l1Cur_anyRoute
  obtain ⟨r, c1, g1, h1, -, k1⟩ := route_ok hfu hc hk hn hm
  obtain ⟨r2, c2, g2, -, -, k2⟩ := pick_ok (fu := fu) k1 (by omega) 16 (by decide)
  obtain ⟨r3, c3, g3, -, -, k3⟩ := pick_ok (fu := fu) k2 (by omega) 8 (by decide)
  simp only [g1, g2, g3, Option.bind_some, app1 (show r.Fibers.length ≤ 1000000 by omega)]
  split
  · exact ⟨_, _, rfl, by simp only; omega, k3.mono (by omega)⟩
  split
  · exact ⟨_, _, rfl, by simp; omega, k3.mono (by omega)⟩
  split
  · exact ⟨_, _, rfl, by simp, k2.mono (by omega)⟩
  split
  · split
    · rename_i h
      have h0 : (1 : Int) < r.Fibers.length := by simpa using h
      have e1 : w64 ((r.Fibers.length : Int) - 1) = ((r.Fibers.length - 1 : Nat) : Int) := by rw [w64_in (by omega) (by omega)]; omega
      simp only [e1, idx_in (show r.Fibers.length - 1 < r.Fibers.length by omega), Option.bind_some, app1 (show r.Fibers.length ≤ 1000000 by omega)]
      exact ⟨_, _, rfl, by simp; omega, k2.mono (by omega)⟩
    · exact ⟨_, _, rfl, by omega, k2.mono (by omega)⟩
  · exact ⟨_, _, rfl, by omega, k2.mono (by omega)⟩
theorem block_ok {fu : Nat} {c : L1CurP} {k : Int} (hc : Cur c k) (hk : k ≤ 900000000) : ∃ r c', spec_l1Cur_block fu c = some (r, c') ∧ Cur c' (k + 10) := by
  unfold spec_l1Cur_block spec_l1Cur_one
  obtain ⟨r1, c1, g1, -, -, k1⟩ := pick_ok (fu := fu) hc (by omega) 12 (by decide)
  obtain ⟨r2, c2, g2, -, -, k2⟩ := pick_ok (fu := fu) k1 (by omega) 26 (by decide)
  obtain ⟨r3, c3, g3, -, -, k3⟩ := pick_ok (fu := fu) k2 (by omega) 27 (by decide)
  obtain ⟨r4, c4, g4, p0, p1, k4⟩ := pick_ok (fu := fu) k1 (by omega) 6 (by decide)
  have p2 := p1 (by decide)
  obtain ⟨r5, c5, g5, -, -, k5⟩ := pick_ok (fu := fu) k4 (by omega) (w64 ((w64 (24 - (w64 (1 + r4)))) + 1)) (by
    rw [w64_in (n := 1 + r4) (by omega) (by omega), w64_in (n := 24 - (1 + r4)) (by omega) (by omega), w64_in (by omega) (by omega)]; omega)
  simp only [g1, g2, g3, g4, g5, Option.bind_some]
  split
  · exact ⟨_, _, rfl, k3.mono (by omega)⟩
  · exact ⟨_, _, rfl, k5.mono (by omega)⟩
theorem of_ok {fu : Nat} {c : L1CurP} {k : Int} (hc : Cur c k) (hk : k ≤ 4611686018427387000) (l : List ByteArray) (h1 : 1 ≤ l.length) (hn : l.length ≤ 1099511627776) : ∃ r c', spec_l1Cur_of fu c l = some (r, c') ∧ r ∈ l ∧ Cur c' (k + 2) := by
  unfold spec_l1Cur_of
  obtain ⟨r, c', g1, g2, g3, g4⟩ := pick_ok (fu := fu) hc hk (l.length : Int) (by omega)
  obtain ⟨e, he, hm⟩ := idx_some (l := l) (i := r) g2 (g3 (by omega))
  simp only [g1, Option.bind_some, he]
  exact ⟨_, _, rfl, hm, g4⟩
theorem anyNet_loop {fu : Nat} : ∀ (fk : Nat) (l : List Fiber) (b : List By) (a : Int) (s : U64) (k B : Int), Cur ⟨b, a, s⟩ k → k ≤ B + 2 * (l.length : Int) → B ≤ 1000000000 → 1 ≤ l.length → l.length ≤ 15 → 15 - l.length < fk →
    ∃ l' b' a' s', spec_l1Cur_anyNetwork_L1 fu fk l b a s = some (l', b', a', s') ∧ l'.length ≤ 15 ∧ Cur ⟨b', a', s'⟩ (B + 50) := by
  intro fk
  induction fk with
  | zero => intro l _ _ _ _ _ _ _ _ _ _ h; omega
  | succ fk ih =>
    intro l b a s k B hc hk hB h1 h2 hf
    rw [spec_l1Cur_anyNetwork_L1]
    obtain ⟨r1, c1, g1, p0, p1, k1⟩ := pick_ok (fu := fu) hc (by omega) 2 (by decide)
    have p2 := p1 (by decide)
    have e : w64 (14 + r1) = 14 + r1 := w64_in (by omega) (by omega)
    have e1 : w64 ((l.length : Int) - 1) = ((l.length - 1 : Nat) : Int) := by rw [w64_in (by omega) (by omega)]; omega
    simp only [g1, Option.bind_some, e, e1, idx_in (show l.length - 1 < l.length by omega), app1 (show l.length ≤ 1000000 by omega)]
    split
    · rename_i h
      have h' : (l.length : Int) < 14 + r1 := by simpa using h
      exact ih _ _ _ _ (k + 2) B k1 (by simp; omega) hB (by simp) (by simp; omega) (by simp; omega)
    · exact ⟨_, _, _, _, rfl, h2, k1.mono (by omega)⟩
theorem anyNetwork_ok {fu : Nat} (hfu : 2097153 ≤ fu) {c : L1CurP} {k : Int} (hc : Cur c k) (hk : k ≤ 800000000) : ∃ r c', spec_l1Cur_anyNetwork fu c = some (r, c') ∧ NetD r ∧ Cur c' (k + 500) := by
  unfold spec_l1Cur_anyNetwork
  obtain ⟨n, c1, g1, h1, h2, h3, k1⟩ := network_ok hfu hc (by omega)
  simp only [g1, Option.bind_some]
  by_cases h : n.Fibers.length = 0
  · have h' : ((n.Fibers.length : Int) == 0) = true := by simp [h]
    simp only [h', if_true]
    exact ⟨_, _, rfl, h1, k1.mono (by omega)⟩
  have h' : ((n.Fibers.length : Int) == 0) = false := by simpa using h
  obtain ⟨r2, c2, g2, p0, p1, k2⟩ := pick_ok (fu := fu) k1 (by omega) (n.Fibers.length : Int) (by omega)
  have p2 := p1 (by omega)
  obtain ⟨e, he, -⟩ := idx_some (l := n.Fibers) (i := r2) p0 p2
  obtain ⟨r3, c3, g3, -, -, k3⟩ := pick_ok (fu := fu) k2 (by omega) 24 (by decide)
  obtain ⟨r4, c4, g4, m4, k4⟩ := of_ok (fu := fu) k3 (by omega) [(⟨#[98]⟩ : ByteArray), ByteArray.empty, (⟨#[65]⟩ : ByteArray), (⟨#[97, 98, 99, 100, 101, 102, 103, 104]⟩ : ByteArray), (⟨#[97, 98, 99, 100, 101, 102, 103, 104, 105]⟩ : ByteArray), (⟨#[120, 49]⟩ : ByteArray)] (by simp) (by simp)
  obtain ⟨r5, c5, g5, -, -, k5⟩ := pick_ok (fu := fu) k3 (by omega) 8 (by decide)
  obtain ⟨r6, c6, g6, -, -, k6⟩ := pick_ok (fu := fu) k3 (by omega) 10 (by decide)
  obtain ⟨r7, c7, g7, -, k7⟩ := among_ok (fu := fu) k3 (by omega) [0, 1, 5000, 5001] (by decide) (by decide)
  obtain ⟨r8, c8, g8, -, k8⟩ := among_ok (fu := fu) k3 (by omega) [(-1), 9, 10] (by decide) (by decide)
  obtain ⟨e0, he0, -⟩ := idx_some (l := n.Fibers) (i := 0) (Int.le_refl _) (by omega)
  obtain ⟨v0, hv0, -⟩ := idx_some (l := n.Nodes) (i := 0) (Int.le_refl _) (by have := h1.n1; omega)
  obtain ⟨l9, b9, a9, s9, g9, h9, k9⟩ := anyNet_loop (fu := fu) fu n.Fibers c3.code c3.at_ c3.seed (k + 200 + 2 + 2) (k + 204) k3 (by omega) (by omega) (by omega) (by omega) (by omega)
  have hfs : ∀ f : Fiber, NetD ⟨n.Nodes, n.Fibers.set r2.toNat f⟩ := fun f => ⟨h1.n1, h1.n2, h1.ns, by simp only [List.length_set]; exact h1.f2⟩
  have ha := app1 (x := e0) (show n.Fibers.length ≤ 1000000 by omega)
  obtain ⟨e9, he9, -⟩ := idx_some (l := n.Fibers ++ [e0]) (i := r2) p0 (by simp; omega)
  have hn4 : app n.Nodes [(⟨#[112]⟩ : ByteArray), (⟨#[113]⟩ : ByteArray), (⟨#[114]⟩ : ByteArray), (⟨#[115]⟩ : ByteArray)] = some (n.Nodes ++ [(⟨#[112]⟩ : ByteArray), (⟨#[113]⟩ : ByteArray), (⟨#[114]⟩ : ByteArray), (⟨#[115]⟩ : ByteArray)]) := app_ok (by simp; omega)
  simp only [h', Bool.false_eq_true, if_false, g2, g3, g4, g5, g6, g7, g8, g9, he, he0, hv0, ha, he9, hn4, Option.bind_some]
  split
  · refine ⟨_, _, rfl, ⟨by simp only [List.length_set]; exact h1.n1, by simp only [List.length_set]; exact h1.n2, fun z hz => ?_, by simp only [List.length_set]; exact h1.f2⟩, k4.mono (by omega)⟩
    rcases List.mem_or_eq_of_mem_set hz with hz | rfl
    · exact h1.ns z hz
    · simp only [List.mem_cons, List.not_mem_nil, or_false] at m4
      rcases m4 with rfl | rfl | rfl | rfl | rfl | rfl <;> decide
  split
  · exact ⟨_, _, rfl, hfs _, k5.mono (by omega)⟩
  split
  · exact ⟨_, _, rfl, hfs _, k6.mono (by omega)⟩
  split
  · exact ⟨_, _, rfl, hfs _, k7.mono (by omega)⟩
  split
  · exact ⟨_, _, rfl, hfs _, k8.mono (by omega)⟩
  split
  · exact ⟨_, _, rfl, ⟨h1.n1, h1.n2, h1.ns, by simp; omega⟩, k3.mono (by omega)⟩
  split
  · exact ⟨_, _, rfl, ⟨h1.n1, h1.n2, h1.ns, by simp only; omega⟩, k9.mono (by omega)⟩
  split
  · refine ⟨_, _, rfl, ⟨by simp, by simp; omega, fun z hz => ?_, by simp only [List.length_set]; exact h1.f2⟩, k3.mono (by omega)⟩
    rcases List.mem_append.1 hz with hz | hz
    · exact h1.ns z hz
    · simp only [List.mem_cons, List.not_mem_nil, or_false] at hz
      rcases hz with rfl | rfl | rfl | rfl <;> decide
  · exact ⟨_, _, rfl, hfs _, k3.mono (by omega)⟩
end AT

namespace AT
structure PlanD (p : Plan) : Prop where
  net : NetD p.Network
  ls : p.Lights.length ≤ 20
  rs : ∀ x ∈ p.Lights, x.Route.Fibers.length ≤ 20
theorem PlanD.B {p : Plan} (h : PlanD p) : PlanB p := ⟨h.net.B, by have := h.ls; omega, fun x hx => by have := h.rs x hx; omega⟩
theorem plan_loop {fu : Nat} (hfu : 2097153 ≤ fu) (ns : List ByteArray) (fs : List Fiber) (hn : NetD ⟨ns, fs⟩) (h1 : 1 ≤ fs.length) : ∀ (fk n : Nat) (L : List Light) (b : List By) (a : Int) (s : U64) (k B : Int), Cur ⟨b, a, s⟩ k → k ≤ B - 50 * (n : Int) → B ≤ 800000000 → L.length + n ≤ 8 → (∀ y ∈ L, blkOk y.Block = true) → (∀ y ∈ L, y.Route.Fibers.length ≤ 4) → n < fk →
    ∃ n' L' b' a' s', spec_l1Cur_plan_L1 fu fk (n : Int) ns fs L b a s = some (n', ns, fs, L', b', a', s') ∧ L'.length ≤ 8 ∧ (∀ y ∈ L', y.Route.Fibers.length ≤ 4) ∧ Cur ⟨b', a', s'⟩ B := by
  intro fk
  induction fk with
  | zero => intro n _ _ _ _ _ _ _ _ _ _ _ _ h; omega
  | succ fk ih =>
    intro n L b a s k B hc hk hB hl hb hr hf
    rw [spec_l1Cur_plan_L1]
    have f2 := hn.f2
    have n2 := hn.n2
    simp only at f2 n2
    by_cases h : 0 < n
    · have hlt : ((n : Int) > 0) = True := eq_true (by omega)
      have e : w64 ((n : Int) - 1) = ((n - 1 : Nat) : Int) := w64_dec h (by omega)
      obtain ⟨r3, c3, g3, q1, q2, q3, k3⟩ := routed_ok hfu hc (by omega) (n := ⟨ns, fs⟩) h1 (by simp only; omega) (by simp only; omega)
      obtain ⟨r4, c4, g4, p0, p1, k4⟩ := pick_ok (fu := fu) k3 (by omega) 5 (by decide)
      have p2 := p1 (by decide)
      have e4 : w64 (1 + r4) = 1 + r4 := w64_in (by omega) (by omega)
      have hal := l9Along_eq hfu (⟨⟨ns, fs⟩, L⟩ : Plan) r3 (by simp only; omega) hb (fun x hx => by have := hr x hx; omega) (by omega)
      have hfi := fun m => l8Fits_eq hfu m (1 + r4) (by omega) (by omega)
      simp only [hlt, decide_true, if_true, e, g3, g4, Option.bind_some, hal, e4, hfi]
      obtain ⟨F, hF⟩ : ∃ F, F = fits (along L r3.Fibers) (1 + r4) := ⟨_, rfl⟩
      simp only [← hF]
      have hm : ∀ t ∈ F, blkOk ⟨t, 1 + r4⟩ = true := fun t ht => by
        rw [hF, fits_mem (by omega) (by omega)] at ht
        unfold blkOk
        simp only [Bool.and_eq_true, decide_eq_true_eq]
        omega
      by_cases hz : F.length = 0
      · have hz' : ((F.length : Int) > 0) = False := eq_false (by omega)
        simp only [hz', decide_false, Bool.false_eq_true, if_false]
        exact ih (n - 1) L _ _ _ (k + 20 + 2) B k4 (by omega) hB (by omega) hb hr (by omega)
      · have hz' : ((F.length : Int) > 0) = True := eq_true (by omega)
        obtain ⟨e0, he0, hm0⟩ := idx_some (l := F) (i := 0) (Int.le_refl _) (by omega)
        obtain ⟨r5, c5, g5, -, -, k5⟩ := pick_ok (fu := fu) k4 (by omega) 2 (by decide)
        have hFl : F.length ≤ 25 := by rw [hF]; exact fits_len _ _
        obtain ⟨r6, c6, g6, p6, p7, k6⟩ := pick_ok (fu := fu) k5 (by omega) (F.length : Int) (by omega)
        obtain ⟨e1, he1, hm1⟩ := idx_some (l := F) (i := r6) p6 (p7 (by omega))
        obtain ⟨r7, c7, g7, -, -, k7⟩ := pick_ok (fu := fu) k6 (by omega) 3 (by decide)
        obtain ⟨r8, c8, g8, -, -, k8⟩ := pick_ok (fu := fu) k5 (by omega) 3 (by decide)
        have hput : ∀ x : Light, x.Route = r3 → spec_l9Put fu (⟨⟨ns, fs⟩, L⟩ : Plan) x = some (addP ⟨⟨ns, fs⟩, L⟩ x) := fun x hx => l9Put_eq hfu _ x ⟨hn.B, by simp only; omega, fun y hy => by have := hr y hy; omega⟩ (by rw [hx]; omega)
        simp only [hz', decide_true, if_true, he0, spec_l1Cur_one, g5, g6, he1, g7, g8, Option.bind_some]
        have step : ∀ (x : Light) (c : L1CurP) (k' : Int), x.Route = r3 → blkOk x.Block = true → Cur c k' → k' ≤ k + 30 → ∃ n' L' b' a' s', ((spec_l9Put fu (⟨⟨ns, fs⟩, L⟩ : Plan) x).bind fun y => spec_l1Cur_plan_L1 fu fk ((n - 1 : Nat) : Int) y.Network.Nodes y.Network.Fibers y.Lights c.code c.at_ c.seed) = some (n', ns, fs, L', b', a', s') ∧ L'.length ≤ 8 ∧ (∀ y ∈ L', y.Route.Fibers.length ≤ 4) ∧ Cur ⟨b', a', s'⟩ B := by
          intro x c k' hx hb' hc' hk'
          rw [hput x hx, Option.bind_some]
          refine ih (n - 1) (putL L x) _ _ _ k' B hc' (by omega) hB (by rw [putL_len]; omega) (fun y hy => ?_) (fun y hy => ?_) (by omega)
          · rcases putL_mem.1 hy with rfl | hy
            · exact hb'
            · exact hb y hy
          · rcases putL_mem.1 hy with rfl | hy
            · rw [hx]; omega
            · exact hr y hy
        split
        · exact step _ c7 _ rfl (hm _ hm1) k7 (by omega)
        · exact step _ c8 _ rfl (hm _ hm0) k8 (by omega)
    · obtain rfl : n = 0 := by omega
      rw [if_neg (by simp)]
      exact ⟨_, _, _, _, _, rfl, by omega, hr, hc.mono (by omega)⟩
theorem plan_ok {fu : Nat} (hfu : 2097153 ≤ fu) {c : L1CurP} {k : Int} (hc : Cur c k) (hk : k ≤ 700000000) : ∃ r c', spec_l1Cur_plan fu c = some (r, c') ∧ PlanD r ∧ r.Lights.length ≤ 8 ∧ 1 ≤ r.Network.Fibers.length ∧ (∀ x ∈ r.Lights, x.Route.Fibers.length ≤ 4) ∧ Cur c' (k + 1000) := by
  unfold spec_l1Cur_plan
  obtain ⟨n, c1, g1, h1, h2, k1⟩ := linked_ok hfu hc (by omega)
  obtain ⟨r2, c2, g2, p0, p1, k2⟩ := pick_ok (fu := fu) k1 (by omega) 9 (by decide)
  have p2 := p1 (by decide)
  obtain ⟨n', L', b', a', s', g3, h3, h4, k3⟩ := plan_loop hfu n.Nodes n.Fibers h1 h2 fu r2.toNat [] c2.code c2.at_ c2.seed (k + 200 + 2) (k + 1000) k2 (by omega) (by omega) (by simp; omega) (by simp) (by simp) (by omega)
  rw [Int.toNat_of_nonneg p0] at g3
  simp only [g1, g2, g3, Option.bind_some]
  exact ⟨_, _, rfl, ⟨h1, by simp only; omega, fun x hx => by have := h4 x hx; omega⟩, h3, h2, h4, k3⟩
theorem anyPlan_loop {fu : Nat} (y : Plan × L1CurP) (h1 : 1 ≤ y.1.Network.Fibers.length) : ∀ (fk n : Nat) (L : List Light) (b : List By) (a : Int) (s : U64) (k B : Int), Cur ⟨b, a, s⟩ k → k ≤ B + 2 * (n : Int) → B ≤ 800000000 → n ≤ 14 → L.length ≤ 13 → (∀ y ∈ L, y.Route.Fibers.length ≤ 20) → 15 - n < fk →
    ∃ n' L' b' a' s', spec_l1Cur_anyPlan_L1 fu y fk (n : Int) L b a s = some (n', L', b', a', s') ∧ L'.length ≤ 13 ∧ (∀ y ∈ L', y.Route.Fibers.length ≤ 20) ∧ Cur ⟨b', a', s'⟩ (B + 60) := by
  intro fk
  induction fk with
  | zero => intro n _ _ _ _ _ _ _ _ _ _ _ _ h; omega
  | succ fk ih =>
    intro n L b a s k B hc hk hB hn hl hr hf
    rw [spec_l1Cur_anyPlan_L1]
    obtain ⟨r1, c1, g1, p0, p1, k1⟩ := pick_ok (fu := fu) hc (by omega) 2 (by decide)
    have p2 := p1 (by decide)
    have e : w64 (12 + r1) = 12 + r1 := w64_in (by omega) (by omega)
    have e1 : w64 ((n : Int) + 1) = ((n + 1 : Nat) : Int) := by rw [w64_in (by omega) (by omega)]; omega
    obtain ⟨e0, he0, -⟩ := idx_some (l := y.1.Network.Fibers) (i := 0) (Int.le_refl _) (by omega)
    have ha : ∀ x : Light, app L [x] = some (L ++ [x]) := fun x => app1 (by omega)
    simp only [g1, Option.bind_some, e, e1, he0, ha]
    split
    · rename_i h
      have h' : (L.length : Int) < 12 + r1 := by simpa using h
      split
      · rename_i h3
        have h3' : (n : Int) < 14 := by simpa using h3
        refine ih (n + 1) _ _ _ _ (k + 2) B k1 (by omega) hB (by omega) (by simp; omega) (fun x hx => ?_) (by omega)
        rcases List.mem_append.1 hx with hx | hx
        · exact hr x hx
        · simp only [List.mem_singleton] at hx; subst hx; simp
      · exact ⟨_, _, _, _, _, rfl, hl, hr, k1.mono (by omega)⟩
    · exact ⟨_, _, _, _, _, rfl, hl, hr, k1.mono (by omega)⟩
theorem anyPlan_ok {fu : Nat} (hfu : 2097153 ≤ fu) {c : L1CurP} {k : Int} (hc : Cur c k) (hk : k ≤ 600000000) : ∃ r c', spec_l1Cur_anyPlan fu c = some (r, c') ∧ PlanD r ∧ Cur c' (k + 3000) := by
  unfold spec_l1Cur_anyPlan
  obtain ⟨p, c1, g1, h1, h2, h3, h4, k1⟩ := plan_ok hfu hc (by omega)
  simp only [g1, Option.bind_some]
  by_cases h : p.Lights.length = 0
  · have h' : ((p.Lights.length : Int) == 0) = true := by simp [h]
    simp only [h', if_true]
    exact ⟨_, _, rfl, h1, k1.mono (by omega)⟩
  have h' : ((p.Lights.length : Int) == 0) = false := by simpa using h
  obtain ⟨r2, c2, g2, p0, p1, k2⟩ := pick_ok (fu := fu) k1 (by omega) (p.Lights.length : Int) (by omega)
  have p2 := p1 (by omega)
  obtain ⟨e, he, hem⟩ := idx_some (l := p.Lights) (i := r2) p0 p2
  obtain ⟨r3, c3, g3, -, -, k3⟩ := pick_ok (fu := fu) k2 (by omega) 24 (by decide)
  obtain ⟨r4, c4, g4, -, k4⟩ := among_ok (fu := fu) k3 (by omega) [0, 999, 1000, 1, 4] (by decide) (by decide)
  obtain ⟨r5, c5, g5, k5⟩ := block_ok (fu := fu) k3 (by omega)
  obtain ⟨r6, c6, g6, h6, k6⟩ := anyRoute_ok hfu k3 (by omega) (n := p.Network) (by have := h1.net.f2; omega) (by have := h1.net.n2; omega)
  obtain ⟨r7, c7, g7, h7, k7⟩ := anyNetwork_ok hfu k3 (by omega)
  obtain ⟨n8, L8, b8, a8, s8, g8, l8, m8, k8⟩ := anyPlan_loop (fu := fu) (p, c1) h3 fu 0 p.Lights c3.code c3.at_ c3.seed (k + 1000 + 2 + 2) (k + 1010) k3 (by omega) (by omega) (by omega) (by omega) (fun x hx => by have := h4 x hx; omega) (by omega)
  rw [Int.ofNat_zero] at g8
  have hr := h4 e hem
  have hset : ∀ (x : Light), x.Route.Fibers.length ≤ 5 → PlanD ⟨p.Network, p.Lights.set r2.toNat x⟩ := fun x hx => ⟨h1.net, by simp only [List.length_set]; omega, fun y hy => by
    rcases List.mem_or_eq_of_mem_set hy with hy | rfl
    · have := h4 y hy; omega
    · omega⟩
  have ha : app p.Lights [e] = some (p.Lights ++ [e]) := app1 (by omega)
  obtain ⟨e9, he9, -⟩ := idx_some (l := p.Lights ++ [e]) (i := r2) p0 (by simp; omega)
  simp only [h', Bool.false_eq_true, if_false, g2, g3, g4, g5, g6, g7, g8, he, ha, he9, Option.bind_some]
  split
  · exact ⟨_, _, rfl, hset _ (by simp only; omega), k4.mono (by omega)⟩
  split
  · exact ⟨_, _, rfl, hset _ (by simp only; omega), k5.mono (by omega)⟩
  split
  · exact ⟨_, _, rfl, hset _ (by simp only; omega), k6.mono (by omega)⟩
  split
  · refine ⟨_, _, rfl, ⟨h1.net, by simp; omega, fun y hy => ?_⟩, k3.mono (by omega)⟩
    rcases List.mem_or_eq_of_mem_set hy with hy | rfl
    · rcases List.mem_append.1 hy with hy | hy
      · have := h4 y hy; omega
      · simp only [List.mem_singleton] at hy; subst hy; omega
    · omega
  split
  · exact ⟨_, _, rfl, ⟨h7, by simp only [List.length_set]; omega, (hset e (by omega)).rs⟩, k7.mono (by omega)⟩
  split
  · exact ⟨_, _, rfl, ⟨h1.net, by simp only; omega, m8⟩, k8.mono (by omega)⟩
  · exact ⟨_, _, rfl, hset _ (by omega), k3.mono (by omega)⟩
end AT

namespace AT
theorem vInts_self {fu : Nat} (hfu : 2097153 ≤ fu) (l : List Int) (h : l.length ≤ 2097152) : laws_vInts fu l l = some true := by
  unfold laws_vInts
  have h1 : ((l.length : Int) != (l.length : Int)) = false := by simp
  rw [h1, if_neg Bool.false_ne_true, eq_all0 l (laws_vInts_L1 fu l l) h (fun fk i => by rw [laws_vInts_L1]) fu (by omega)]
  rfl
theorem vLights_self {fu : Nat} (hfu : 2097153 ≤ fu) (x : Light) (h : x.Route.Fibers.length ≤ 2097152) : laws_vLights fu x x = some true := by
  unfold laws_vLights laws_vRoutes
  rw [vInts_self hfu _ h]
  simp
theorem vNetworks_self {fu : Nat} (hfu : 2097153 ≤ fu) (n : Network) (h : NetB n) : laws_vNetworks fu n n = some true := by
  unfold laws_vNetworks
  have h1 : ((n.Nodes.length : Int) != (n.Nodes.length : Int)) = false := by simp
  have h2 : ((n.Fibers.length : Int) != (n.Fibers.length : Int)) = false := by simp
  have e1 : laws_vNetworks_L1 fu n n fu 0 = some (.next (n.Nodes.length : Int)) := by
    rw [scan_all (l := n.Nodes) (G := laws_vNetworks_L1 fu n n) (fun _ => false) (fun _ => false) (by have := h.1.1; omega)
      (fun fk i hi => by
        have h' : (i : Int) < (n.Nodes.length : Int) := by omega
        rw [laws_vNetworks_L1]
        simp only [h', decide_true, if_true, idx_in hi, Option.bind_some, beq_self_eq_true, Bool.not_true])
      (fun fk => by rw [laws_vNetworks_L1, if_neg (by simp)]) fu (by have := h.1.1; omega)]
    simp
  have e2 : laws_vNetworks_L2 fu n n fu 0 = some (.next (n.Fibers.length : Int)) := by
    rw [scan_all (l := n.Fibers) (G := laws_vNetworks_L2 fu n n) (fun _ => false) (fun _ => false) (by have := h.2; omega)
      (fun fk i hi => by
        have h' : (i : Int) < (n.Fibers.length : Int) := by omega
        rw [laws_vNetworks_L2]
        simp only [h', decide_true, if_true, idx_in hi, Option.bind_some, beq_self_eq_true, Bool.not_true])
      (fun fk => by rw [laws_vNetworks_L2, if_neg (by simp)]) fu (by have := h.2; omega)]
    simp
  rw [h1, if_neg Bool.false_ne_true, h2, Option.bind_some, if_neg Bool.false_ne_true, e1, e2]
  rfl
theorem vPlans_self {fu : Nat} (hfu : 2097153 ≤ fu) (p : Plan) (h : PlanB p) : laws_vPlans fu p p = some true := by
  unfold laws_vPlans
  have h1 : ((p.Lights.length : Int) != (p.Lights.length : Int)) = false := by simp
  rw [vNetworks_self hfu _ h.1, h1, eq_all1 p.Lights (laws_vPlans_L1 fu p p) (laws_vLights fu) h.2.1 (fun e he => vLights_self hfu e (h.2.2 e he)) (fun fk i => by rw [laws_vPlans_L1]) fu (by have := h.2.1; omega)]
  rfl
end AT
