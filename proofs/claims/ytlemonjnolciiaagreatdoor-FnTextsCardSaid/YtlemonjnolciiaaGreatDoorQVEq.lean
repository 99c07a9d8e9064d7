/- The laws' comparisons of plans, plainly: a plan is equal to itself. -/
import Derived.Test.YtlemonjnolciiaaGreatDoorQUsed
set_option linter.unusedSimpArgs false
set_option linter.unusedVariables false
namespace AT
theorem vInts_self {fu : Nat} (hfu : 2097153 ≤ fu) (l : List Int) (h : l.length ≤ 2097152) : laws_vInts fu l l = some true := by
  unfold laws_vInts
  have h1 : ((l.length : Int) != (l.length : Int)) = false := by simp
  rw [h1, if_neg Bool.false_ne_true, eq_all0 l (laws_vInts_L1 fu l l) h (fun fk i => by rw [laws_vInts_L1]) fu (by omega)]
  rfl
theorem vLights_self {fu : Nat} (hfu : 2097153 ≤ fu) (x : Light) (h : x.Route.Fibers.length ≤ 2097152) : laws_vLights fu x x = some true := by
  unfold laws_vLights laws_vRoutes
  rw [vInts_self hfu _ h]
  simp
theorem vNetworks_self {fu : Nat} (hfu : 2097153 ≤ fu) (n : Network) (h : NetB n) : laws_vNetworks fu n n = some true := by
  unfold laws_vNetworks
  have h1 : ((n.Nodes.length : Int) != (n.Nodes.length : Int)) = false := by simp
  have h2 : ((n.Fibers.length : Int) != (n.Fibers.length : Int)) = false := by simp
  have e1 : laws_vNetworks_L1 fu n n fu 0 = some (.next (n.Nodes.length : Int)) := by
    rw [scan_all (l := n.Nodes) (G := laws_vNetworks_L1 fu n n) (fun _ => false) (fun _ => false) (by have := h.1.1; omega)
      (fun fk i hi => by
        have h' : (i : Int) < (n.Nodes.length : Int) := by omega
        rw [laws_vNetworks_L1]
        simp only [h', decide_true, if_true, idx_in hi, Option.bind_some, beq_self_eq_true, Bool.not_true])
      (fun fk => by rw [laws_vNetworks_L1, if_neg (by simp)]) fu (by have := h.1.1; omega)]
    simp
  have e2 : laws_vNetworks_L2 fu n n fu 0 = some (.next (n.Fibers.length : Int)) := by
    rw [scan_all (l := n.Fibers) (G := laws_vNetworks_L2 fu n n) (fun _ => false) (fun _ => false) (by have := h.2; omega)
      (fun fk i hi => by
        have h' : (i : Int) < (n.Fibers.length : Int) := by omega
        rw [laws_vNetworks_L2]
        simp only [h', decide_true, if_true, idx_in hi, Option.bind_some, beq_self_eq_true, Bool.not_true])
      (fun fk => by rw [laws_vNetworks_L2, if_neg (by simp)]) fu (by have := h.2; omega)]
    simp
  rw [h1, if_neg Bool.false_ne_true, h2, Option.bind_some, if_neg Bool.false_ne_true, e1, e2]
  rfl
theorem vPlans_self {fu : Nat} (hfu : 2097153 ≤ fu) (p : Plan) (h : PlanB p) : laws_vPlans fu p p = some true := by
  unfold laws_vPlans
  have h1 : ((p.Lights.length : Int) != (p.Lights.length : Int)) = false := by simp
  rw [vNetworks_self hfu _ h.1, h1, eq_all1 p.Lights (laws_vPlans_L1 fu p p) (laws_vLights fu) h.2.1 (fun e he => vLights_self hfu e (h.2.2 e he)) (fun fk i => by rw [laws_vPlans_L1]) fu (by have := h.2.1; omega)]
  rfl
end AT
