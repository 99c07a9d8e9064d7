/- FnExactSegmentLengths, plainly: from what the program's function and the reference's answer. -/
import Derived.Test.YtihidfnpcdefcaaMFnExactSegmentLengths
import Derived.Test.YtihidfnpcdefcaaH
set_option linter.unusedSimpArgs false
set_option linter.unusedVariables false
namespace AT
theorem FnExactSegmentLengths_true (x0 : Network) (x1 : Route) (x2 : List Int) (o0 : ok_Network x0) (o1 : ok_Route x1) (o2 : ok_IntS x2) : ∃ fu, laws_FnExactSegmentLengths fu x0 x1 x2 = some true := by
  obtain ⟨fu, hfu⟩ : ∃ fu, 2097153 ≤ fu := ⟨2097153, Nat.le_refl _⟩
  refine ⟨fu, ?_⟩
  unfold laws_FnExactSegmentLengths
  by_cases g2 : (x2.length : Int) > 1048576
  · simp only [g2, decide_true, if_true]
  simp only [g2, decide_false, Bool.false_eq_true, if_false]
  have b2 : B_IntS x2 := ⟨by omega, fun _ _ => trivial⟩
  obtain ⟨r0, e0, q0⟩ := sz_Network hfu o0 (l := 1048576) (by omega) (by omega)
  simp only [e0, Option.bind_some]
  by_cases n0 : r0 < 0
  · simp only [n0, decide_true, if_true]
  obtain ⟨b0, l0⟩ := q0 (by omega)
  simp only [n0, decide_false, Bool.false_eq_true, if_false]
  obtain ⟨r1, e1, q1⟩ := sz_Route hfu o1 (l := r0) (by omega) (by omega)
  simp only [e1, Option.bind_some]
  by_cases n1 : r1 < 0
  · simp only [n1, decide_true, if_true]
  obtain ⟨b1, l1⟩ := q1 (by omega)
  simp only [n1, decide_false, Bool.false_eq_true, if_false]
  obtain ⟨w, hs, hi, w0⟩ := main_FnExactSegmentLengths hfu o0 o1 o2 b0 b1 b2
  obtain ⟨k0, z0_0, z0_1, m0, u0, v0⟩ := mo_Network hfu b0 (k := 1) (by omega) (by omega)
  have f0 : ¬ k0 < 0 := by omega
  obtain ⟨k1, z1_0, m1, u1, v1⟩ := mo_Route hfu b1 (k := k0) (by omega) (by omega)
  have f1 : ¬ k1 < 0 := by omega
  obtain ⟨k2, z2_0, m2, d2, u2, v2⟩ := mk_IntS hfu b2 (k := k1) (by omega) (by omega)
  have f2 : ¬ k2 < 0 := by omega
  obtain ⟨k3, z3_0, m3, d3, u3, v3⟩ := mk_IntS hfu w0 (k := 1) (by omega) (by omega)
  have f3 : ¬ k3 < 0 := by omega
  simp [Option.bind_some, hs, hi, to_Network hfu b0, eq_Network hfu b0, to_Route hfu b1, eq_Route hfu b1, to_IntS hfu b2, eq_IntS hfu b2, @eq_Fiber fu hfu _ trivial, @to_Fiber fu hfu _ trivial, eq_IntS hfu w0, m0, f0, m1, f1, m2, f2, d2, m3, d3, f3]
end AT
