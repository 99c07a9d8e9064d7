/- Actions applied to plans, plainly: the program's and the reference's are one. -/
import Derived.Test.YtokhhjepjbhhpaaGreatQAct0
import Derived.Test.YtokhhjepjbhhpaaGreatQDefr
set_option linter.unusedSimpArgs false
set_option linter.unusedVariables false
namespace AT
/-! ### Equal lists, equal lights -/
theorem eq_any {a b : List Int} (h : a.length = b.length) : (List.range a.length).any (fun i => gd a i 0 != gd b i 0) = !decide (a = b) := by
  rw [Bool.eq_iff_iff, List.any_eq_true]
  simp only [List.mem_range, bne_iff_ne, ne_eq, Bool.not_eq_true', decide_eq_false_iff_not]
  constructor
  · rintro ⟨i, hi, hne⟩ rfl
    exact hne rfl
  · intro hne
    rcases Classical.em (∃ i, i < a.length ∧ ¬ gd a i 0 = gd b i 0) with h1 | h1
    · exact h1
    · refine absurd (List.ext_getElem h fun i h2 h3 => ?_) hne
      rcases Classical.em (a[i] = b[i]) with h4 | h4
      · exact h4
      · exact absurd ⟨i, h2, by rw [gd_in 0 h2, gd_in 0 h3]; exact h4⟩ h1
theorem l1Same_eq {fu : Nat} (hfu : 2097153 ≤ fu) (a b : List Int) (ha : a.length ≤ 2097152) : spec_l1Same fu a b = some (decide (a = b)) := by
  unfold spec_l1Same
  by_cases h : a.length = b.length
  · have h1 : ((a.length : Int) != (b.length : Int)) = false := by rw [h]; simp
    rw [h1, if_neg Bool.false_ne_true]
    rw [scan_all (l := List.range a.length) (G := spec_l1Same_L1 fu a b) (fun i => gd a i 0 != gd b i 0) (fun _ => false) (by simp; omega)
      (fun fk i hi => by
        have hi' : i < a.length := by simpa using hi
        have h' : (i : Int) < (a.length : Int) := by omega
        rw [spec_l1Same_L1, List.getElem_range]
        simp only [h', decide_true, if_true, idx_gd 0 hi', idx_gd 0 (show i < b.length by omega), Option.bind_some])
      (fun fk => by rw [List.length_range, spec_l1Same_L1, if_neg (by simp)]) fu (by simp; omega), eq_any h]
    cases decide (a = b) <;> rfl
  · have h1 : ((a.length : Int) != (b.length : Int)) = true := by simp; omega
    have h2 : ¬ a = b := fun e => h (by rw [e])
    rw [h1, if_pos rfl, decide_eq_false h2]
theorem equalI_eq {fu : Nat} (hfu : 2097153 ≤ fu) (a b : List Int) (ha : a.length ≤ 2097152) : slices_Equal_int_int fu a b = some (decide (a = b)) := by
  unfold slices_Equal_int_int
  by_cases h : a.length = b.length
  · have h1 : ((a.length : Int) != (b.length : Int)) = false := by rw [h]; simp
    rw [h1, if_neg Bool.false_ne_true]
    rw [scan_all (l := List.range a.length) (G := slices_Equal_int_int_L1 fu a b) (fun i => gd a i 0 != gd b i 0) (fun _ => false) (by simp; omega)
      (fun fk i hi => by
        have hi' : i < a.length := by simpa using hi
        have h' : (i : Int) < (a.length : Int) := by omega
        rw [slices_Equal_int_int_L1, List.getElem_range]
        simp only [h', decide_true, if_true, idx_gd 0 hi', idx_gd 0 (show i < b.length by omega), Option.bind_some])
      (fun fk => by rw [List.length_range, slices_Equal_int_int_L1, if_neg (by simp)]) fu (by simp; omega), eq_any h]
    cases decide (a = b) <;> rfl
  · have h1 : ((a.length : Int) != (b.length : Int)) = true := by simp; omega
    have h2 : ¬ a = b := fun e => h (by rw [e])
    rw [h1, if_pos rfl, decide_eq_false h2]
theorem light_ext (x y : Light) : x = y ↔ x.Id = y.Id ∧ x.Route.Start = y.Route.Start ∧ x.Route.Fibers = y.Route.Fibers ∧ x.Block.First = y.Block.First ∧ x.Block.Count = y.Block.Count := by
  rcases x with ⟨i, ⟨s, f⟩, ⟨a, c⟩⟩
  rcases y with ⟨i', ⟨s', f'⟩, ⟨a', c'⟩⟩
  simp only [Light.mk.injEq, Route.mk.injEq, Block.mk.injEq, and_assoc]
theorem l20Same_eq {fu : Nat} (hfu : 2097153 ≤ fu) (x y : Light) (hx : x.Route.Fibers.length ≤ 2097152) : spec_l20Same fu x y = some (decide (x = y)) := by
  unfold spec_l20Same spec_l4Same
  rw [l1Same_eq hfu _ _ hx]
  have e := light_ext x y
  by_cases h1 : x.Id = y.Id <;> by_cases h2 : x.Route.Start = y.Route.Start <;> by_cases h3 : x.Route.Fibers = y.Route.Fibers <;> by_cases h4 : x.Block.First = y.Block.First <;> by_cases h5 : x.Block.Count = y.Block.Count <;> simp [h1, h2, h3, h4, h5, e]
theorem equalLights_eq {fu : Nat} (hfu : 2097153 ≤ fu) (x y : Light) (hx : x.Route.Fibers.length ≤ 2097152) : impl_equalLights fu x y = some (decide (x = y)) := by
  unfold impl_equalLights
  rw [equalI_eq hfu _ _ hx]
  have e := light_ext x y
  by_cases h1 : x.Id = y.Id <;> by_cases h2 : x.Route.Start = y.Route.Start <;> by_cases h3 : x.Route.Fibers = y.Route.Fibers <;> by_cases h4 : x.Block.First = y.Block.First <;> by_cases h5 : x.Block.Count = y.Block.Count <;> simp [h1, h2, h3, h4, h5, e]
def has_ (p : Plan) (id : Int) : Bool := p.Lights.any fun y => y.Id == id
end AT

