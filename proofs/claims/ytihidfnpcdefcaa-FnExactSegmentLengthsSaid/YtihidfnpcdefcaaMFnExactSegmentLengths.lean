/- SegmentLengths: the program's and the reference's are one. -/
import Derived.Test.YtihidfnpcdefcaaQRoute
import Derived.Test.YtihidfnpcdefcaaH
set_option linter.unusedSimpArgs false
namespace AT
theorem seg_loop {fu fu' : Nat} (n : Network) (r : Route) (nodes : List Int) (hl2 : nodes.length ≤ 2097152) {ns : List Int} (b : Bool) (hn : NetF n) (hl : r.Fibers.length ≤ 2097152) (ho : rnodes n r = some ns) : ∀ (fk i k : Nat) (out : List Int) (s : Int), i ≤ r.Fibers.length → r.Fibers.length - i < fk → k ≤ nodes.length → out.length ≤ i →
    ∃ o m s', spec_SegmentLengths_L1 fu n r nodes ns fk out k s i = some (o, m, s', (r.Fibers.length : Int)) ∧ impl_SegmentLengths_L1 fu' n r nodes (ns, b) fk out s k i = some (o, s', m, (r.Fibers.length : Int)) ∧ o.length ≤ r.Fibers.length := by
  intro fk
  induction fk with
  | zero => intro i _ _ _ _ h; omega
  | succ fk ih =>
    intro i k out s hi hk hkl hol
    rw [spec_SegmentLengths_L1, impl_SegmentLengths_L1]
    by_cases h : i < r.Fibers.length
    · obtain ⟨e1, e2⟩ := fib_at ho h
      obtain ⟨f, hfe⟩ : ∃ f, f = gd n.Fibers r.Fibers[i].toNat f0 := ⟨_, rfl⟩
      rw [← hfe] at e1
      have hns := rnodes_len ho
      have hd : decide ((i : Int) < (r.Fibers.length : Int)) = true := by simpa using h
      simp only [hd, if_true, idx_in h, Option.bind_some, e1, idx_in (show i < ns.length by omega)]
      rw [app_ok (by simp; omega), w64_inc h (by omega)]
      by_cases hc : 0 < i ∧ k < nodes.length ∧ nodes[k]? = some ns[i]
      · obtain ⟨c1, c2, c3⟩ := hc
        have hx : idx nodes (k : Int) = some ns[i] := by rw [idx_nat]; exact c3
        have c1' : (i : Int) > 0 := by omega
        have c2' : (k : Int) < (nodes.length : Int) := by omega
        simp only [c1', c2', decide_true, if_true, hx, Option.bind_some, beq_self_eq_true]
        rw [w64_inc c2 (by omega)]
        exact ih (i + 1) (k + 1) _ _ h (by omega) c2 (by simp; omega)
      · have key : (if decide ((k : Int) < (nodes.length : Int)) = true then if decide ((i : Int) > 0) = true then (idx nodes (k : Int)).bind fun e => some (e == ns[i]) else some false else some false) = some false ∧ (if decide ((i : Int) > 0) = true then if decide ((k : Int) < (nodes.length : Int)) = true then (idx nodes (k : Int)).bind fun e => some (e == ns[i]) else some false else some false) = some false := by
          by_cases c2 : (k : Int) < (nodes.length : Int)
          · by_cases c1 : (i : Int) > 0
            · have c2' : k < nodes.length := by omega
              rw [idx_in c2']
              have : (nodes[k] == ns[i]) = false := by
                rw [beq_eq_false_iff_ne]
                intro h'
                exact hc ⟨by omega, c2', by rw [List.getElem?_eq_getElem c2', h']⟩
              simp only [c1, c2, decide_true, if_true, Option.bind_some, this, and_self]
            · simp only [c1, c2, decide_true, decide_false, Bool.false_eq_true, if_true, if_false, and_self]
          · by_cases c1 : (i : Int) > 0 <;> simp only [c1, c2, decide_true, decide_false, Bool.false_eq_true, if_true, if_false, and_self]
        simp only [key.1, key.2, Option.bind_some, Bool.false_eq_true, if_false]
        exact ih (i + 1) k _ _ h (by omega) hkl (by omega)
    · obtain rfl : i = r.Fibers.length := by omega
      rw [if_neg (by simp), if_neg (by simp)]
      exact ⟨_, _, _, rfl, rfl, hol⟩
theorem main_FnExactSegmentLengths {fu : Nat} (hfu : 2097153 ≤ fu) {x0 : Network} {x1 : Route} {x2 : List Int} (_ : ok_Network x0) (_ : ok_Route x1) (_ : ok_IntS x2) (b0 : B_Network x0) (b1 : B_Route x1) (b2 : B_IntS x2) : ∃ w, spec_SegmentLengths fu x0 x1 x2 = some w ∧ impl_SegmentLengths fu x0 x1 x2 = some w ∧ B_IntS w.1 := by
  have hB : NetB x0 := ⟨b0.1, b0.2.1⟩
  have hr : x1.Fibers.length ≤ 2097152 := b1.1
  have bz : B_IntS [] := ⟨by simp, by simp⟩
  unfold spec_SegmentLengths impl_SegmentLengths
  simp only [l4Good_eq hfu x0 x1 hB hr, routeNodes_eq hfu x0 x1 hB hr, Option.bind_some]
  by_cases hv : netOk x0 = true
  · cases ho : rnodes x0 x1 with
    | none => exact ⟨([], false), by simp [hv], by simp [hv], bz⟩
    | some ns =>
      obtain ⟨o, m, s', h1, h2, h3⟩ := seg_loop (fu := fu) (fu' := fu) x0 x1 x2 b2.1 true (netF hv) hr ho fu 0 0 [] 0 (by omega) (by omega) (by omega) (by simp)
      rw [show ((0 : Nat) : Int) = 0 from rfl] at h1 h2
      have hlen := netF hv
      have hns := rnodes_len ho
      simp only [hv, Option.isSome_some, Bool.and_true, Bool.not_true, Bool.false_eq_true, if_false, if_true, Option.bind_some, l4Nodes_eq hfu x0 x1 hB hr ho, h1, h2]
      by_cases hm : m < (x2.length : Int)
      · simp only [hm, decide_true, if_true]
        exact ⟨_, rfl, rfl, bz⟩
      · simp only [hm, decide_false, Bool.false_eq_true, if_false, app_ok (show o.length + [s'].length ≤ 1099511627776 by simp; omega), Option.bind_some]
        have hle : x1.Fibers.length ≤ 8 := by
          exact rnodes_short (netF hv) ho
        exact ⟨_, rfl, rfl, by simp; omega, fun _ _ => trivial⟩
  · rw [Bool.not_eq_true] at hv
    exact ⟨([], false), by simp [hv], by simp [hv], bz⟩
end AT
