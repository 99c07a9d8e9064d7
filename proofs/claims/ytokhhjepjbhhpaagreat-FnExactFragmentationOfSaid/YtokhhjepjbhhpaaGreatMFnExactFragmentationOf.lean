/- FragmentationOf: the program's and the reference's are one. -/
import Derived.Test.YtokhhjepjbhhpaaGreatQFrag
import Derived.Test.YtokhhjepjbhhpaaGreatH
set_option linter.unusedSimpArgs false
namespace AT
theorem frag_loop {fu : Nat} (hfu : 2097153 ≤ fu) (p : Plan) (hB : PlanB p) (hF : PlanF p) : ∀ (fk i : Nat) (o : List Int) (a : Int), i ≤ p.Network.Fibers.length → p.Network.Fibers.length - i < fk → o.length ≤ i →
    ∃ z z' l r, spec_FragmentationOf_L1 fu p fk o a i = some (l, r, z) ∧ impl_FragmentationOf_L1 fu (maskL p.Lights p.Network.Fibers.length) fk o a i = some (l, r, z') ∧ l.length ≤ p.Network.Fibers.length := by
  have hn := (netF hF.net).fib
  intro fk
  induction fk with
  | zero => intro i _ _ _ h; omega
  | succ fk ih =>
    intro i o a hi hk ho
    have hlen : (maskL p.Lights p.Network.Fibers.length).length = p.Network.Fibers.length := by simp [maskL]
    rw [spec_FragmentationOf_L1, impl_FragmentationOf_L1, hlen]
    by_cases h : i < p.Network.Fibers.length
    · have h' : (i : Int) < (p.Network.Fibers.length : Int) := by omega
      have hm := used_mk (fun e he => (hF.light e he).blk) (L := p.Lights) (i : Int)
      obtain ⟨r, r1, r2⟩ := use_both hfu hm
      have ha : app o [r.2.2.1] = some (o ++ [r.2.2.1]) := app_ok (by simp; omega)
      simp only [h', decide_true, if_true, maskL_idx h, l9Used_eq hfu p (i : Int) hB.2.1 (fun e he => (hF.light e he).blk) hB.2.2, Option.bind_some, r1, r2, ha, most_eq, w64_inc h (show (p.Network.Fibers.length : Int) ≤ 9223372036854775807 by omega)]
      exact ih (i + 1) _ _ h (by omega) (by simp; omega)
    · obtain rfl : i = p.Network.Fibers.length := by omega
      rw [if_neg (by simp), if_neg (by simp)]
      exact ⟨_, _, _, _, rfl, rfl, ho⟩
theorem main_FnExactFragmentationOf {fu : Nat} (hfu : 2097153 ≤ fu) {x0 : Plan} (_ : ok_Plan x0) (b0 : B_Plan x0) : ∃ w, spec_FragmentationOf fu x0 = some w ∧ impl_FragmentationOf fu x0 = some w ∧ B_IntS w.1 := by
  have hB : PlanB x0 := ⟨⟨b0.1.1, b0.1.2.1⟩, b0.2.1, fun x hx => (b0.2.2 x hx).1.1⟩
  unfold spec_FragmentationOf impl_FragmentationOf
  rw [specPlan_eq hfu x0 hB, implPlan_eq hfu x0 hB]
  simp only [Option.bind_some]
  cases hp : planOk x0
  · exact ⟨_, rfl, rfl, by simp [B_IntS]⟩
  · have hF := planF hp
    have hn := (netF hF.net).fib
    obtain ⟨z, z', l, r, g1, g2, g3⟩ := frag_loop hfu x0 hB hF fu 0 [] 0 (by omega) (by omega) (by simp)
    have h0 : ((0 : Nat) : Int) = 0 := rfl
    rw [h0] at g1 g2
    simp only [Bool.not_true, Bool.false_eq_true, if_false, fiberMasks_eq hfu x0 hB hF, Option.bind_some, g1, g2]
    exact ⟨_, rfl, rfl, show l.length ≤ 2097152 by omega, fun _ _ => trivial⟩
end AT
