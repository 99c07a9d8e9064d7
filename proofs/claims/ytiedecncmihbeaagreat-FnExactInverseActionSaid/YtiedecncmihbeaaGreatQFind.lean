/- The light with an id, plainly. -/
import Derived.Test.YtiedecncmihbeaaGreatQPlan
set_option linter.unusedSimpArgs false
set_option linter.unusedVariables false
namespace AT
def atId (L : List Light) (id : Int) : Nat := L.findIdx fun y => y.Id == id
theorem atId_lt {L : List Light} {id : Int} (h : (L.any fun y => y.Id == id) = true) : atId L id < L.length := by
  unfold atId
  rw [List.findIdx_lt_length]
  obtain ⟨x, hx, hc⟩ := List.any_eq_true.1 h
  exact ⟨x, hx, hc⟩
theorem l9Find_eq {fu : Nat} (p : Plan) (id : Int) (h : p.Lights.length < fu) (hn : p.Lights.length ≤ 2097152) : spec_l9Find fu p id = some (if p.Lights.any (fun y => y.Id == id) then ((atId p.Lights id : Nat) : Int) else -1) := by
  unfold spec_l9Find
  rw [scan_all (l := p.Lights) (G := spec_l9Find_L1 fu p id) (fun y => y.Id == id) (fun i => (i : Int)) (by omega)
    (fun fk i hi => by
      have h' : (i : Int) < (p.Lights.length : Int) := by omega
      rw [spec_l9Find_L1]
      simp only [h', decide_true, if_true, idx_in hi, Option.bind_some])
    (fun fk => by rw [spec_l9Find_L1, if_neg (by simp)]) fu h]
  unfold atId
  cases p.Lights.any fun y => y.Id == id <;> rfl
theorem lightAt_eq {fu : Nat} (p : Plan) (id : Int) (h : p.Lights.length < fu) (hn : p.Lights.length ≤ 2097152) : impl_lightAt fu p id = some (if p.Lights.any (fun y => y.Id == id) then ((atId p.Lights id : Nat) : Int) else -1) := by
  unfold impl_lightAt slices_IndexFunc_impl_Light_impl_Light_of_lightAt_c1
  rw [scan_all (l := p.Lights) (G := slices_IndexFunc_impl_Light_impl_Light_of_lightAt_c1_L1 fu p.Lights id) (fun y => y.Id == id) (fun i => (i : Int)) (by omega)
    (fun fk i hi => by
      have h' : (i : Int) < (p.Lights.length : Int) := by omega
      rw [slices_IndexFunc_impl_Light_impl_Light_of_lightAt_c1_L1]
      simp only [h', decide_true, if_true, idx_in hi, Option.bind_some, impl_lightAt_c1])
    (fun fk => by rw [slices_IndexFunc_impl_Light_impl_Light_of_lightAt_c1_L1, if_neg (by simp)]) fu h]
  unfold atId
  cases p.Lights.any fun y => y.Id == id <;> rfl
end AT

