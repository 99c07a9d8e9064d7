/- BillOf: the program's and the reference's are one. -/
import Derived.Test.YtokhhjepjbhhpaaGreatQBill2
import Derived.Test.YtokhhjepjbhhpaaGreatH
set_option linter.unusedSimpArgs false
set_option linter.unusedVariables false
namespace AT
theorem inner_loop {fu : Nat} (hfu : 2097153 ≤ fu) (w : List Int × Bool) (hw : w.1.length ≤ 7) (hv : ∀ v ∈ w.1, 0 ≤ v ∧ v ≤ 7) : ∀ (fk i : Nat) (o : List Item) (t : IA 40) (N : Nat), i ≤ w.1.length → w.1.length - i < fk → BR t o N → N ≤ 300 + i →
    ∃ z z' o' t', spec_BillOf_L2 fu w fk o i = some (o', z) ∧ impl_BillOf_L2 fu w fk i t = some (z', t') ∧ BR t' o' (N + (w.1.length - i)) := by
  intro fk
  induction fk with
  | zero => intro i _ _ _ _ h; omega
  | succ fk ih =>
    intro i o t N hi hk hB hN
    rw [spec_BillOf_L2, impl_BillOf_L2]
    by_cases h : i < w.1.length
    · have h' : (i : Int) < (w.1.length : Int) := by omega
      obtain ⟨v, hve⟩ : ∃ v, v = w.1[i] := ⟨_, rfl⟩
      have hv' := hv _ (List.getElem_mem h)
      rw [← hve] at hv'
      obtain ⟨s1, s2, t', s3, s4⟩ := BR.step hfu hB (by omega) (kind := 2) (node := v) (c := 1) (by omega) hv' (by omega)
      have c2 : chk 2 5 = some 2 := rfl
      have c3 : chk v 8 = some v.toNat := chk_in hv'.1 (by omega)
      have s2' : t.get (0 + 2 * 8 + v.toNat * 1) = some (tv t (2 * 8 + v)) := s2
      have s3' : t.put (0 + 2 * 8 + v.toNat * 1) (w64 (tv t (2 * 8 + v) + 1)) = some t' := s3
      obtain ⟨z, z', o', t2, g1, g2, g3⟩ := ih (i + 1) _ t' (N + 1) h (by omega) s4 (by omega)
      simp only [h', decide_true, if_true, idx_in h, ← hve, Option.bind_some, s1, c2, c3, s2', s3']
      rw [w64_inc h (by omega), g1, g2]
      refine ⟨z, z', o', t2, rfl, rfl, ?_⟩
      rwa [show N + 1 + (w.1.length - (i + 1)) = N + (w.1.length - i) by omega] at g3
    · obtain rfl : i = w.1.length := by omega
      rw [if_neg (by simp), if_neg (by simp)]
      exact ⟨_, _, _, _, rfl, rfl, by simpa using hB⟩
theorem lights_loop {fu : Nat} (hfu : 2097153 ≤ fu) (p : Plan) (reach : Int) (h1 : 1 ≤ reach) (h2 : reach ≤ 20000) (hB : PlanB p) (hF : PlanF p) : ∀ (fk i : Nat) (o : List Item) (t : IA 40), i ≤ p.Lights.length → p.Lights.length - i < fk → BR t o (9 * i) →
    (spec_BillOf_L1 fu p reach fk o i = some (.ret ([], false)) ∧ impl_BillOf_L1 fu p reach fk i t = some (.ret ([], false))) ∨
    ∃ z z' o' t', spec_BillOf_L1 fu p reach fk o i = some (.next (o', z)) ∧ impl_BillOf_L1 fu p reach fk i t = some (.next (z', t')) ∧ BR t' o' 108 := by
  have hs := hF.short
  have hv := hF.net
  intro fk
  induction fk with
  | zero => intro i _ _ _ h; omega
  | succ fk ih =>
    intro i o t hi hk hR
    rw [spec_BillOf_L1, impl_BillOf_L1]
    by_cases h : i < p.Lights.length
    · have h' : (i : Int) < (p.Lights.length : Int) := by omega
      obtain ⟨e, hee⟩ : ∃ e, e = p.Lights[i] := ⟨_, rfl⟩
      have hl := hF.light _ (List.getElem_mem h)
      have hr := hB.2.2 _ (List.getElem_mem h)
      rw [← hee] at hl hr
      obtain ⟨ns, ho⟩ := hl.route
      have hfa := rnodes_facts (netF hv) ho
      have hhi := (netF hv).hi
      obtain ⟨w, r1, r2, r3⟩ := regen_both hfu p.Network e.Route reach h1 h2 hB.1 hv hr ho
      simp only [h', decide_true, if_true, idx_in h, ← hee, Option.bind_some, r1, r2]
      rcases r3 with r3 | ⟨r3, r4, r5⟩
      · rw [r3]
        exact .inl ⟨rfl, rfl⟩
      · obtain ⟨e2, f1, f2, f3, f4⟩ := end_both hfu p.Network e.Route hB.1 hv hr ho
        obtain ⟨s1, s2, t1, s3, s4⟩ := BR.step hfu hR (by omega) (kind := 1) (node := e.Route.Start) (c := 1) (by omega) (by omega) (by omega)
        obtain ⟨q1, q2, t2, q3, q4⟩ := BR.step hfu s4 (by omega) (kind := 1) (node := e2) (c := 1) (by omega) (by omega) (by omega)
        have c1 : chk 1 5 = some 1 := rfl
        have c2 : chk e.Route.Start 8 = some e.Route.Start.toNat := chk_in hfa.2.2.2.2.2.1 (by omega)
        have c3 : chk e2 8 = some e2.toNat := chk_in f3 (by omega)
        have s2' : t.get (0 + 1 * 8 + e.Route.Start.toNat * 1) = some (tv t (1 * 8 + e.Route.Start)) := s2
        have s3' : t.put (0 + 1 * 8 + e.Route.Start.toNat * 1) (w64 (tv t (1 * 8 + e.Route.Start) + 1)) = some t1 := s3
        have q2' : t1.get (0 + 1 * 8 + e2.toNat * 1) = some (tv t1 (1 * 8 + e2)) := q2
        have q3' : t1.put (0 + 1 * 8 + e2.toNat * 1) (w64 (tv t1 (1 * 8 + e2) + 1)) = some t2 := q3
        obtain ⟨z, z', o', t3, g1, g2, g3⟩ := inner_loop hfu w r4 r5 fu 0 _ t2 (9 * i + 1 + 1) (by omega) (by omega) q4 (by omega)
        have h0 : ((0 : Nat) : Int) = 0 := rfl
        rw [h0] at g1 g2
        simp only [r3, Bool.not_true, Bool.false_eq_true, if_false, s1, f1, f2, q1, c1, c2, c3, s2', s3', q2', q3', Option.bind_some, g1, g2]
        rw [w64_inc h (by omega)]
        exact ih (i + 1) o' t3 h (by omega) (g3.mono (by omega))
    · obtain rfl : i = p.Lights.length := by omega
      rw [if_neg (by simp), if_neg (by simp)]
      exact .inr ⟨_, _, _, _, rfl, rfl, hR.mono (by omega)⟩
theorem quo_in {L s : Int} (h1 : 1 ≤ L) (h2 : L ≤ 5000) (h3 : 50 ≤ s) (h4 : s ≤ 1000) : ∃ q, quo (w64 (w64 (L + s) - 1)) s = some q ∧ w64 (q - 1) = q - 1 ∧ 1 ≤ q ∧ q ≤ 101 := by
  have e1 : w64 (L + s) = L + s := w64_in (by omega) (by omega)
  rw [e1]
  clear e1
  have e2 : w64 (L + s - 1) = L + s - 1 := w64_in (by omega) (by omega)
  rw [e2]
  clear e2
  unfold quo
  rw [if_neg (by omega), Int.tdiv_eq_ediv_of_nonneg (by omega)]
  have a1 : 1 ≤ (L + s - 1) / s := Int.le_ediv_of_mul_le (by omega) (by omega)
  have a2 : (L + s - 1) / s < 101 := Int.ediv_lt_of_lt_mul (by omega) (by omega)
  generalize (L + s - 1) / s = q at a1 a2
  rw [w64_in (by omega) (by omega)]
  refine ⟨q, rfl, ?_, a1, by omega⟩
  rw [w64_in (by omega) (by omega)]
theorem BR.keep {t : IA 40} {o : List Item} {N : Nat} (h : BR t o N) (hN : N ≤ 400) {kind node : Int} (hk : 1 ≤ kind ∧ kind ≤ 4) (hn : 0 ≤ node ∧ node ≤ 7) :
    t.get (0 + kind.toNat * 8 + node.toNat * 1) = some (tv t (kind * 8 + node)) ∧ ∃ t', t.put (0 + kind.toNat * 8 + node.toNat * 1) (w64 (tv t (kind * 8 + node) + 0)) = some t' ∧ BR t' o N := by
  have hkk : 0 + kind.toNat * 8 + node.toNat * 1 < 40 := by omega
  have hkey : ((0 + kind.toNat * 8 + node.toNat * 1 : Nat) : Int) = kind * 8 + node := by omega
  have hg := tv_get t hkk
  rw [hkey] at hg
  have hv := h.eq (kind * 8 + node) (by omega) (by omega)
  have hle := h.le (kind * 8 + node)
  have hge := cnt_nonneg (kind * 8 + node) h.sp
  have hw : w64 (tv t (kind * 8 + node) + 0) = tv t (kind * 8 + node) := by rw [Int.add_zero]; exact w64_in (by omega) (by omega)
  obtain ⟨t', p1, p2⟩ := tv_put t hkk (tv t (kind * 8 + node))
  rw [hkey] at p2
  refine ⟨hg, t', by rw [hw]; exact p1, h.sp, fun k k0 k4 => ?_, h.out, h.le, h.len⟩
  rw [p2 k k0]
  split
  · rename_i e; rw [e, hv]
  · exact h.eq k k0 k4
theorem fibers_loop {fu : Nat} (hfu : 2097153 ≤ fu) (p : Plan) (spacing : Int) (h1 : 50 ≤ spacing) (h2 : spacing ≤ 1000) (hB : PlanB p) (hF : PlanF p) : ∀ (fk i : Nat) (o : List Item) (t : IA 40), i ≤ p.Network.Fibers.length → p.Network.Fibers.length - i < fk → BR t o (108 + 3 * i) →
    ∃ z z' o' t', spec_BillOf_L3 fu p spacing fk i o = some (z, o') ∧ impl_BillOf_L3 fu p spacing (maskL p.Lights p.Network.Fibers.length) fk i t = some (z', t') ∧ BR t' o' 150 := by
  have hn := netF hF.net
  have hf14 := hn.fib
  have hlen : (maskL p.Lights p.Network.Fibers.length).length = p.Network.Fibers.length := by simp [maskL]
  intro fk
  induction fk with
  | zero => intro i _ _ _ h; omega
  | succ fk ih =>
    intro i o t hi hk hR
    rw [spec_BillOf_L3, impl_BillOf_L3, hlen]
    by_cases h : i < p.Network.Fibers.length
    · have h' : (i : Int) < (p.Network.Fibers.length : Int) := by omega
      obtain ⟨f, hfe⟩ : ∃ f, f = p.Network.Fibers[i] := ⟨_, rfl⟩
      have hf := hn.each _ (List.getElem_mem h)
      have hhi := hn.hi
      rw [← hfe] at hf
      simp only [h', decide_true, if_true, idx_in h, ← hfe, maskL_idx h, l9Used_eq hfu p (i : Int) hB.2.1 (fun e he => (hF.light e he).blk) hB.2.2, Option.bind_some]
      obtain ⟨u, hu⟩ : ∃ u, u = used p.Lights (i : Int) := ⟨_, rfl⟩
      rw [← hu]
      by_cases hz : u = 0
      · have e1 : (u == 0) = true := by rw [beq_iff_eq]; exact hz
        have e2 : (u != 0) = false := by rw [hz]; rfl
        rw [e1, e2, if_pos rfl, if_neg Bool.false_ne_true, w64_inc h (by omega)]
        exact ih (i + 1) o t h (by omega) (hR.mono (by omega))
      · have e1 : (u == 0) = false := by rw [beq_eq_false_iff_ne]; exact hz
        have e2 : (u != 0) = true := by rw [bne_iff_ne]; exact hz
        obtain ⟨q, k1, k2, k3, k4⟩ := quo_in (L := f.Length) (s := spacing) (by omega) (by omega) h1 h2
        obtain ⟨a1, a2, t1, a3, a4⟩ := BR.step hfu hR (by omega) (kind := 4) (node := f.A) (c := 1) (by omega) (by omega) (by omega)
        obtain ⟨b1, b2, t2, b3, b4⟩ := BR.step hfu a4 (by omega) (kind := 4) (node := f.B) (c := 1) (by omega) (by omega) (by omega)
        have last : ∃ o3 t3, spec_l19Add fu (ins ⟨4, f.B, 1⟩ (ins ⟨4, f.A, 1⟩ o)) ⟨3, f.A, q - 1⟩ = some o3 ∧ t2.get (0 + 3 * 8 + f.A.toNat * 1) = some (tv t2 (3 * 8 + f.A)) ∧ t2.put (0 + 3 * 8 + f.A.toNat * 1) (w64 (tv t2 (3 * 8 + f.A) + (q - 1))) = some t3 ∧ BR t3 o3 (108 + 3 * i + 1 + 1 + 1) := by
          by_cases hq : q - 1 = 0
          · rw [hq]
            obtain ⟨d1, t3, d2, d3⟩ := BR.keep b4 (by omega) (kind := 3) (node := f.A) (by omega) (by omega)
            exact ⟨_, t3, BR.same 3 f.A, d1, d2, d3.mono (by omega)⟩
          · obtain ⟨d1, d2, t3, d3, d4⟩ := BR.step hfu b4 (by omega) (kind := 3) (node := f.A) (c := q - 1) (by omega) (by omega) (by omega)
            exact ⟨_, t3, d1, d2, d3, d4⟩
        obtain ⟨o3, t3, d1, d2, d3, d4⟩ := last
        have c3 : chk 3 5 = some 3 := rfl
        have c4 : chk 4 5 = some 4 := rfl
        have cA : chk f.A 8 = some f.A.toNat := chk_in hf.1 (by omega)
        have cB : chk f.B 8 = some f.B.toNat := chk_in (by omega) (by omega)
        have a2' : t.get (0 + 4 * 8 + f.A.toNat * 1) = some (tv t (4 * 8 + f.A)) := a2
        have a3' : t.put (0 + 4 * 8 + f.A.toNat * 1) (w64 (tv t (4 * 8 + f.A) + 1)) = some t1 := a3
        have b2' : t1.get (0 + 4 * 8 + f.B.toNat * 1) = some (tv t1 (4 * 8 + f.B)) := b2
        have b3' : t1.put (0 + 4 * 8 + f.B.toNat * 1) (w64 (tv t1 (4 * 8 + f.B) + 1)) = some t2 := b3
        simp only [e1, e2, if_true, Bool.false_eq_true, if_false, a1, b1, k1, k2, d1, c3, c4, cA, cB, a2', a3', b2', b3', d2, d3, Option.bind_some]
        rw [w64_inc h (by omega)]
        exact ih (i + 1) o3 t3 h (by omega) (d4.mono (by omega))
    · obtain rfl : i = p.Network.Fibers.length := by omega
      rw [if_neg (by simp), if_neg (by simp)]
      exact ⟨_, _, _, _, rfl, rfl, hR.mono (by omega)⟩
theorem main_FnExactBillOf {fu : Nat} (hfu : 2097153 ≤ fu) {x0 : Plan} {x1 x2 : Int} (_ : ok_Plan x0) (_ : ok_Int x1) (_ : ok_Int x2) (b0 : B_Plan x0) : ∃ w, spec_BillOf fu x0 x1 x2 = some w ∧ impl_BillOf fu x0 x1 x2 = some w ∧ B_ItemS w.1 := by
  have hB : PlanB x0 := ⟨⟨b0.1.1, b0.1.2.1⟩, b0.2.1, fun x hx => (b0.2.2 x hx).1.1⟩
  have nil : B_ItemS [] := ⟨by simp, by simp⟩
  unfold spec_BillOf impl_BillOf
  rw [specPlan_eq hfu x0 hB, implPlan_eq hfu x0 hB]
  simp only [Option.bind_some, l1In_eq, within_eq]
  cases hp : planOk x0
  · exact ⟨_, rfl, rfl, nil⟩
  cases hc : (decide (1 ≤ x1) && decide (x1 ≤ 20000))
  · exact ⟨_, rfl, rfl, nil⟩
  cases hd : (decide (50 ≤ x2) && decide (x2 ≤ 1000))
  · exact ⟨_, rfl, rfl, nil⟩
  simp only [Bool.and_eq_true, decide_eq_true_eq] at hc hd
  have hF := planF hp
  have h0 : ((0 : Nat) : Int) = 0 := rfl
  have hs := hF.short
  have hf14 := (netF hF.net).fib
  simp only [Bool.not_true, Bool.false_eq_true, if_false, Option.bind_some]
  rcases lights_loop hfu x0 x1 hc.1 hc.2 hB hF fu 0 [] _ (by omega) (by omega) BR.zero with ⟨g1, g2⟩ | ⟨z, z', o, t, g1, g2, g3⟩
  · rw [h0] at g1 g2
    rw [g1, g2]
    exact ⟨_, rfl, rfl, nil⟩
  · rw [h0] at g1 g2
    obtain ⟨y, y', o2, t2, k1, k2, k3⟩ := fibers_loop hfu x0 x2 hd.1 hd.2 hB hF fu 0 o t (by omega) (by omega) (g3.mono (by omega))
    rw [h0] at k1 k2
    obtain ⟨b, a5, a6⟩ := bill_eq hfu t2
    have he : b = o2 := by
      refine uniq _ _ 8 a5.sp k3.sp fun k => ?_
      rw [a5.c k]
      have hge := cnt_nonneg k k3.sp
      by_cases hk : 8 ≤ k ∧ k < 40
      · rw [k3.eq k (by omega) hk.2]
        by_cases hp : 0 < cnt o2 k
        · rw [if_pos ⟨hk.1, hk.2, hp⟩]
        · rw [if_neg (fun h => hp h.2.2)]; omega
      · rw [if_neg (fun h => hk ⟨h.1, h.2.1⟩), k3.out k hk]
    subst he
    have hlen := a5.len
    rw [g1, g2]
    simp only [Out.on, Option.bind_some, k1, fiberMasks_eq hfu x0 hB hF, k2, a6]
    rw [l19Bill_eq b (by omega) (by omega)]
    simp only [Option.bind_some]
    cases billOk b
    · exact ⟨_, rfl, rfl, nil⟩
    · exact ⟨_, rfl, rfl, show b.length ≤ 2097152 by omega, fun _ _ => trivial⟩
end AT
