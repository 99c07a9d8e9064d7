/- The slots that lights occupy on a fiber: what the reference computes. -/
import Derived.Test.YtokhhjepjbhhpaaGreatQMask
set_option linter.unusedSimpArgs false
set_option linter.unusedVariables false
namespace AT
/-! ### Occupied slots -/
theorem used_loop {fu : Nat} (hfu : 2097153 ≤ fu) (p : Plan) (f : Int) (hl : p.Lights.length ≤ 2097152) (hb : ∀ y ∈ p.Lights, blkOk y.Block = true) (hr : ∀ x ∈ p.Lights, x.Route.Fibers.length ≤ 2097152) : ∀ (fk i : Nat) (o : Int), i ≤ p.Lights.length → p.Lights.length - i < fk →
    ∃ z, spec_l9Used_L1 fu p f fk o i = some ((p.Lights.drop i).foldl (fun o y => if has y.Route.Fibers f = true then bor o (bits y.Block) else o) o, z) := by
  intro fk
  induction fk with
  | zero => intro i _ _ h; omega
  | succ fk ih =>
    intro i o hi hk
    rw [spec_l9Used_L1]
    by_cases h : i < p.Lights.length
    · have h' : (i : Int) < (p.Lights.length : Int) := by omega
      have hm := List.getElem_mem h
      have hr' := hr _ hm
      simp only [h', decide_true, if_true, idx_in h, Option.bind_some, l1Has_eq _ f (show p.Lights[i].Route.Fibers.length < fu by omega) hr', l8Bits_eq (hb _ hm)]
      rw [← List.getElem_cons_drop h, List.foldl_cons, w64_inc h (by omega)]
      have e : (p.Lights[i].Route.Fibers.any fun x => x == f) = has p.Lights[i].Route.Fibers f := rfl
      rw [e]
      by_cases hc : has p.Lights[i].Route.Fibers f = true
      · rw [if_pos hc, if_pos hc]
        exact ih (i + 1) _ h (by omega)
      · rw [if_neg hc, if_neg hc]
        exact ih (i + 1) _ h (by omega)
    · obtain rfl : i = p.Lights.length := by omega
      rw [if_neg (by simp), List.drop_length]
      exact ⟨_, rfl⟩
theorem l9Used_eq {fu : Nat} (hfu : 2097153 ≤ fu) (p : Plan) (f : Int) (hl : p.Lights.length ≤ 2097152) (hb : ∀ y ∈ p.Lights, blkOk y.Block = true) (hr : ∀ x ∈ p.Lights, x.Route.Fibers.length ≤ 2097152) : spec_l9Used fu p f = some (used p.Lights f) := by
  unfold spec_l9Used
  obtain ⟨z, hz⟩ := used_loop hfu p f hl hb hr fu 0 0 (by omega) (by omega)
  rw [show ((0 : Nat) : Int) = 0 from rfl, List.drop_zero] at hz
  rw [hz]
  rfl
end AT
