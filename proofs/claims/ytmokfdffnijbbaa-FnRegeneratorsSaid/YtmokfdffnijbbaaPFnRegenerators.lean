/- FnRegenerators, plainly. -/
import Derived.Test.YtmokfdffnijbbaaQSites
import Derived.Test.YtmokfdffnijbbaaQVInts
set_option linter.unusedSimpArgs false
set_option linter.unusedVariables false
namespace AT
theorem drawRegen {fu : Nat} (hfu : 2097153 ≤ fu) {x : List By} (hc : Cur ⟨x, 0, ⟨0⟩⟩ 0) : ∃ n r m, spec_DrawRegeneratorsFor fu x = some (n, r, m) ∧ NetD n ∧ r.Fibers.length ≤ 5 := by
  unfold spec_DrawRegeneratorsFor
  obtain ⟨n, c1, a1, a2, a3⟩ := anyNetwork_ok hfu hc (by omega)
  obtain ⟨r, c2, b1, b2, b3⟩ := anyRoute_ok hfu a3 (by omega) (n := n) (by have := a2.f2; omega) (by have := a2.n2; omega)
  obtain ⟨m, c3, p1, p2⟩ := reach_ok (fu := fu) b3 (by omega)
  simp only [a1, b1, p1, Option.bind_some]
  exact ⟨_, _, _, rfl, a2, b2⟩
theorem drawFew {fu : Nat} (hfu : 2097153 ≤ fu) {x : List By} (hc : Cur ⟨x, 0, ⟨0⟩⟩ 0) : ∃ n m, spec_DrawFewestSites fu x = some (n, m) ∧ NetD n := by
  unfold spec_DrawFewestSites
  obtain ⟨n, c1, a1, a2, a3⟩ := anyNetwork_ok hfu hc (by omega)
  obtain ⟨m, c3, p1, p2⟩ := reach_ok (fu := fu) a3 (by omega)
  simp only [a1, p1, Option.bind_some]
  exact ⟨_, _, rfl, a2⟩
theorem sums_ok {fu : Nat} (y2 : Network × Route × Int) (l : List Int) (b : Bool) (hl : l.length ≤ 100) (hr : y2.2.2 ≤ 20000) (h : ∀ x ∈ l, 1 ≤ x ∧ x ≤ y2.2.2) : ∀ (fk i : Nat) (s : Int), i ≤ l.length → l.length - i < fk → 0 ≤ s → s ≤ 20000 * (i : Int) →
    laws_FnRegenerators_L1 fu y2 (l, b) fk s i = some (.next (s + isum (l.drop i), (l.length : Int))) := by
  intro fk
  induction fk with
  | zero => intro i _ _ h; omega
  | succ fk ih =>
    intro i s hi hk h0 h1
    rw [laws_FnRegenerators_L1]
    by_cases hil : i < l.length
    · have hx := h _ (List.getElem_mem hil)
      rw [← List.getElem_cons_drop hil, isum]
      obtain ⟨x, hxe⟩ : ∃ x, x = l[i] := ⟨_, rfl⟩
      have hid : idx l (i : Int) = some x := by rw [hxe]; exact idx_in hil
      rw [← hxe] at hx ⊢
      have c1 : ¬ (x > y2.2.2) := by omega
      have c2 : ¬ (x < 1) := by omega
      have hd : decide ((i : Int) < (l.length : Int)) = true := by simpa using hil
      have hw : w64 (s + x) = s + x := w64_in (by omega) (by omega)
      simp only [hd, if_true, hid, Option.bind_some, c1, c2, decide_false, Bool.false_eq_true, if_false, hw]
      clear hw
      rw [w64_inc hil (by omega), ih (i + 1) (s + x) hil (by omega) (by omega) (by omega), Int.add_assoc]
    · obtain rfl : i = l.length := by omega
      rw [if_neg (by simp), List.drop_length]
      simp [isum]
theorem far_ok {fu : Nat} (y2 : Network × Route × Int) (l : List Int) (b : Bool) (hl : l.length ≤ 100) : ∀ (fk i : Nat) (far : Bool), i ≤ l.length → l.length - i < fk →
    laws_FnRegenerators_L3 fu y2 (l, b) fk far i = some (far || (l.drop i).any (fun x => decide (x > y2.2.2)), (l.length : Int)) := by
  intro fk
  induction fk with
  | zero => intro i _ _ h; omega
  | succ fk ih =>
    intro i far hi hk
    rw [laws_FnRegenerators_L3]
    by_cases hil : i < l.length
    · have hd : decide ((i : Int) < (l.length : Int)) = true := by simpa using hil
      rw [← List.getElem_cons_drop hil, List.any_cons]
      simp only [hd, if_true, idx_in hil, Option.bind_some]
      cases far
      · simp only [Bool.false_eq_true, if_false, Option.bind_some, Bool.false_or]
        rw [w64_inc hil (by omega), ih (i + 1) _ hil (by omega)]
      · simp only [if_true, Option.bind_some, Bool.true_or]
        rw [w64_inc hil (by omega), ih (i + 1) _ hil (by omega), Bool.true_or]
    · obtain rfl : i = l.length := by omega
      rw [if_neg (by simp), List.drop_length]
      simp
theorem without_eq {fu : Nat} (l : List Int) (i : Nat) (h : i < l.length) (hl : l.length ≤ 1000) : laws_rWithout fu l (i : Int) = some (l.eraseIdx i) := by
  unfold laws_rWithout
  have hs : sub l ((i + 1 : Nat) : Int) (l.length : Int) = some (l.drop (i + 1)) := by
    unfold sub
    rw [if_pos (by omega)]
    simp
  rw [sub_take (Nat.le_of_lt h), Option.bind_some, w64_inc h (by omega), hs, Option.bind_some, app_ok (by simp; omega), Option.bind_some, app_ok (by simp; omega), Option.bind_some, List.eraseIdx_eq_take_drop_succ]
  rfl
theorem outN_erase (ns : List Int) (ps : List Nat) (i : Nat) : (outN ns ps).eraseIdx i = outN ns (ps.eraseIdx i) := by
  unfold outN
  induction ps generalizing i with
  | nil => rfl
  | cons p ps ih =>
    cases i with
    | zero => rfl
    | succ i => simp only [List.map_cons, List.eraseIdx_cons_succ, ih]
theorem out_ok {fu : Nat} (hfu : 2097153 ≤ fu) (n : Network) (r : Route) (reach : Int) (hB : NetB n) (hr : r.Fibers.length ≤ 2097152) {ns : List Int} (hv : netOk n = true) (ho : rnodes n r = some ns) (ps : List Nat) (hps : ris r.Fibers.length 1 ps) (b : Bool)
    (hfar : ps.length = 1 → isum (lens n r) > reach) : ∀ (fk i : Nat), i ≤ ps.length → ps.length - i < fk → laws_FnRegenerators_L2 fu (n, r, reach) (outN ns ps, b) fk i = some (.next (ps.length : Int)) := by
  have hn := netF hv
  have hl := rnodes_short hn ho
  have hne := (rnodes_facts hn ho).2.2.2.2.1
  have hne' : 1 ≤ r.Fibers.length := List.length_pos_iff.2 hne
  have hpl := ris_len hps hne'
  have hlen : (outN ns ps).length = ps.length := by simp [outN]
  intro fk
  induction fk with
  | zero => intro i _ h; omega
  | succ fk ih =>
    intro i hi hk
    rw [laws_FnRegenerators_L2]
    by_cases hil : i < ps.length
    · have hd : decide ((i : Int) < (ps.length : Int)) = true := by simpa using hil
      have hw := without_eq (fu := fu) (outN ns ps) i (by omega) (by omega)
      rw [outN_erase] at hw
      have hps' := ris_erase i hps
      have hsl := segs_len (lens n r) 0 (ps.eraseIdx i) 0 (by rw [lens_len]; simpa using ris_mono (by omega) hps')
      have hel : (ps.eraseIdx i).length ≤ 8 := by have := (List.eraseIdx_sublist ps i).length_le; omega
      have hseg := segments_eq hfu n r hB hr hv ho _ hps'
      obtain ⟨l, hle⟩ : ∃ l, l = (segs (lens n r) 0 (ps.eraseIdx i) 0).1 ++ [(segs (lens n r) 0 (ps.eraseIdx i) 0).2] := ⟨_, rfl⟩
      rw [← hle] at hseg
      have hll : l.length ≤ 100 := by rw [hle]; simp; omega
      have hfr := far_ok (fu := fu) (n, r, reach) l true hll fu 0 false (by omega) (by omega)
      rw [show ((0 : Nat) : Int) = 0 from rfl] at hfr
      simp only [hlen, hd, if_true, hw, Option.bind_some, hseg, hfr, Bool.not_true, Bool.false_eq_true, if_false, Bool.false_or, List.drop_zero]
      have hfin : (if (!l.any fun x => decide (x > reach)) = true then if ((i : Int) == w64 ((ps.length : Int) - 1)) = true then some ((ps.length : Int) == 1) else some false else some false) = some false := by
        by_cases h1 : ps.length = 1
        · have hz : i = 0 := by omega
          subst hz
          have h0 : ps.eraseIdx 0 = [] := by
            cases ps with
            | nil => simp at h1
            | cons p ps =>
              simp only [List.length_cons] at h1
              have : ps = [] := List.length_eq_zero_iff.1 (by omega)
              simp [this]
          rw [h0, segs_nil] at hle
          have hx := hfar h1
          have : (l.any fun x => decide (x > reach)) = true := by
            rw [hle]; simp; omega
          rw [this]; rfl
        · have h2 : ((ps.length : Int) == 1) = false := by simp; omega
          rw [h2]
          split
          · split <;> rfl
          · rfl
      rw [hfin, Option.bind_some, w64_inc hil (by omega)]
      simp only [Bool.false_eq_true, if_false]
      exact ih (i + 1) hil (by omega)
    · obtain rfl : i = ps.length := by omega
      rw [if_neg (by rw [hlen]; simp)]
theorem FnRegenerators_true (x0 : List By) (o0 : ok_ByS x0) : ∃ fu, laws_FnRegenerators fu x0 = some true := by
  obtain ⟨fu, hfu4⟩ : ∃ fu, 4194304 ≤ fu := ⟨4194304, Nat.le_refl _⟩
  have hfu : 2097153 ≤ fu := by omega
  refine ⟨fu, ?_⟩
  unfold laws_FnRegenerators laws_vBig
  by_cases hb : (x0.length : Int) > 65536
  · simp only [hb, decide_true, Option.bind_some, if_true]
  simp only [hb, decide_false, Option.bind_some, Bool.false_eq_true, if_false]
  have hc : Cur ⟨x0, 0, ⟨0⟩⟩ 0 := start_cur o0.1 (by omega)
  obtain ⟨n, r, m, g1, h1, h2⟩ := drawRegen hfu hc
  obtain ⟨n2, m2, g2, h3⟩ := drawFew hfu hc
  have hB := h1.B
  have hr : r.Fibers.length ≤ 2097152 := by omega
  obtain ⟨w, w1, w2, w3⟩ := few_both hfu4 (x0 := n2) (x1 := m2) h3.B
  -- the second half
  have last : ((if (w.2.1 != w.2.1) = true then some true else if (w.2.2 != w.2.2) = true then some true else (laws_vInts fu w.1 w.1).bind fun y13 => if (!y13) = true then some true else some (!w.2.1)).bind fun c19 =>
      if c19 = true then
        (if (w.2.1 == w.2.1) = true then if (w.2.2 == w.2.2) = true then (laws_vInts fu w.1 w.1).bind fun y14 => some y14 else some false else some false).bind fun c20 => some c20
      else (impl_SitesConnect fu n2 w.1 m2).bind fun y15 => (if y15.1 = true then some y15.2 else some false).bind fun c21 => some c21) = some true := by
    rw [vInts_self hfu _ w3]
    simp only [bne_self_eq_false, beq_self_eq_true, Bool.false_eq_true, if_false, if_true, Option.bind_some, Bool.not_true]
    cases hw : w.2.1
    · rfl
    · rw [few_true hfu4 h3.B w1 hw]
      rfl
  unfold impl_RegeneratorsFor impl_IsValidRoute spec_RegeneratorsFor
  simp only [g1, g2, Option.bind_some, w1, w2, l4Good_eq hfu n r hB hr, routeNodes_eq hfu n r hB hr, l1In_eq, within_eq]
  have void : ∀ (b : Bool), ([] : List Int) = [] := fun _ => rfl
  have none_ : (if (false != false) = true then some true else (laws_vInts fu ([] : List Int) []).bind fun y5 => some (!y5)) = some false := by
    rw [vInts_self hfu _ (by simp)]; rfl
  by_cases hv : netOk n = true
  · cases ho : rnodes n r with
    | none =>
      simp only [hv, if_true, Option.isSome_none, Bool.and_false, Bool.not_false, Option.bind_some, none_, Bool.false_eq_true, if_false]
      exact last
    | some ns =>
      by_cases hc : 1 ≤ m ∧ m ≤ 20000
      · have hc' : (decide (1 ≤ m) && decide (m ≤ 20000)) = true := by simpa using hc
        have hn := netF hv
        have hl := rnodes_short hn ho
        have hne := (rnodes_facts hn ho).2.2.2.2.1
        have hne' : 1 ≤ r.Fibers.length := List.length_pos_iff.2 hne
        have hlens := lens_in hn ho
        have hll := lens_len n r
        simp only [hv, Option.isSome_some, Bool.and_true, Bool.not_true, Bool.false_eq_true, if_false, if_true, hc', Option.bind_some, l4Nodes_eq hfu n r hB hr ho, impl_regenerators, visited_eq hfu n r hB.2 hB.1.1 hr, ho]
        have hreg := regen_at (fu := fu) (fu' := fu) n r m hc.2 true hn ho fu 0 [] 0 (by omega) (by omega) (by simp) (by omega) (by omega)
        rw [show ((0 : Nat) : Int) = 0 from rfl, List.drop_zero] at hreg
        rcases hreg with ⟨q1, q2, q3⟩ | ⟨ps, z, q1, q2, q3⟩
        · rw [q2, q3]
          simp only [Option.bind_some, Out.on, none_, Bool.false_eq_true, if_false]
          exact last
        · rw [q2, q3]
          simp only [Option.bind_some, Out.on, List.nil_append]
          obtain ⟨x, L, hxl⟩ : ∃ x L, lens n r = x :: L := by
            cases hL : lens n r with
            | nil => rw [hL] at hll; simp at hll; omega
            | cons x L => exact ⟨x, L, rfl⟩
          have q1' := q1
          rw [hxl] at q1'
          obtain ⟨s1, s2, s3, s4⟩ := segs_in0 x L ps (hlens x (by rw [hxl]; simp)).1 (fun y hy => (hlens y (by rw [hxl]; simp [hy])).1) q1'
          rw [← hxl] at s1 s2 s3
          have hL1 : L.length + 1 = r.Fibers.length := by rw [← hll, hxl]; simp
          rw [hL1] at s4
          have hpl := ris_len s4 hne'
          have hol : (outN ns ps).length = ps.length := by simp [outN]
          have hsl := segs_len (lens n r) 0 ps 0 (by rw [hll]; simpa using ris_mono (by omega) s4)
          have hsum := segs_sum (lens n r) 0 ps 0
          obtain ⟨l, hle⟩ : ∃ l, l = (segs (lens n r) 0 ps 0).1 ++ [(segs (lens n r) 0 ps 0).2] := ⟨_, rfl⟩
          have hseg := segments_eq hfu n r hB hr hv ho ps s4
          rw [← hle] at hseg
          have hlen : l.length = ps.length + 1 := by rw [hle]; simp [hsl]
          have hlin : ∀ y ∈ l, 1 ≤ y ∧ y ≤ m := by
            intro y hy
            rw [hle] at hy
            rcases List.mem_append.1 hy with hy | hy
            · exact s1 y hy
            · rw [List.mem_singleton] at hy; subst hy; exact ⟨s2, s3⟩
          have hisum : isum l = isum (lens n r) := by
            have happ : ∀ (a b : List Int), isum (a ++ b) = isum a + isum b := by
              intro a
              induction a with
              | nil => intro b; simp [isum]
              | cons x a ih => intro b; rw [List.cons_append, isum, ih b, isum, Int.add_assoc]
            rw [hle, happ]
            simp only [isum]
            omega
          have hself : laws_vInts fu (outN ns ps) (outN ns ps) = some true := vInts_self hfu _ (by omega)
          have hb1 : (true != true) = false := rfl
          have hb2 : (isum (lens n r) != isum (lens n r)) = false := by simp
          have hlt : spec_RouteLength fu n r = some (isum (lens n r), true) := by
            unfold spec_RouteLength spec_l4Length
            have := length_at (fu := fu) n r hn ho fu 0 0 (by omega) (by omega) (by omega) (by omega)
            rw [show ((0 : Nat) : Int) = 0 from rfl, List.drop_zero, Int.zero_add] at this
            simp only [l4Good_eq hfu n r hB hr, hv, ho, Option.isSome_some, Bool.and_true, Option.bind_some, Bool.not_true, Bool.false_eq_true, if_false, this]
          have hs1 := sums_ok (fu := fu) (n, r, m) l true (by omega) hc.2 hlin fu 0 0 (by omega) (by omega) (by omega) (by omega)
          rw [show ((0 : Nat) : Int) = 0 from rfl, List.drop_zero, Int.zero_add, hisum] at hs1
          have hfar : ps.length = 1 → isum (lens n r) > m := by
            intro hp1
            cases ps with
            | nil => simp at hp1
            | cons p ps =>
              have := regs_far (lens n r) 0 0 p ps (fun y hy => (hlens y hy).1) q1
              omega
          have hs2 := out_ok hfu n r m hB hr hv ho ps s4 true hfar fu 0 (by omega) (by omega)
          rw [show ((0 : Nat) : Int) = 0 from rfl] at hs2
          have hcnt : ((l.length : Int) != w64 (((outN ns ps).length : Int) + 1)) = false := by
            rw [hol, w64_in (by omega) (by omega), hlen]; simp
          rw [hself]
          simp only [Option.bind_some, hb1, Bool.false_eq_true, if_false, Bool.not_true, if_true]
          rw [hseg, hlt]
          rw [Option.bind_some, Option.bind_some]
          rw [if_neg (show ¬ (!true) = true by decide)]
          rw [hcnt, Option.bind_some, if_neg Bool.false_ne_true, hs1, Option.bind_some]
          show (if (isum (lens n r) != isum (lens n r)) = true then _ else _) = _
          rw [hb2, if_neg Bool.false_ne_true, hs2, Option.bind_some]
          exact last
      · have hc' : (decide (1 ≤ m) && decide (m ≤ 20000)) = false := by rw [Bool.eq_false_iff]; simp; omega
        simp only [hv, if_true, Option.isSome_some, Bool.and_true, Bool.not_true, Bool.false_eq_true, if_false, hc', Bool.not_false, Option.bind_some, none_]
        exact last
  · rw [Bool.not_eq_true] at hv
    simp only [hv, Bool.false_and, Bool.not_false, if_true, Option.bind_some, Bool.false_eq_true, if_false, none_]
    exact last
end AT
