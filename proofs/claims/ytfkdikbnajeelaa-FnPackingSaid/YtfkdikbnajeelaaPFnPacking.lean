/- FnPacking, plainly. -/
import Derived.Test.YtfkdikbnajeelaaQPkV
set_option linter.unusedSimpArgs false
set_option linter.unusedVariables false
namespace AT
theorem FnPacking_true (x0 : List By) (o0 : ok_ByS x0) : ∃ fu, laws_FnPacking fu x0 = some true := by
  suffices h : ∀ fu, 2097153 ≤ fu → laws_FnPacking fu x0 = some true from ⟨2097153, h _ (Nat.le_refl _)⟩
  intro fu hfu
  unfold laws_FnPacking laws_vBig
  rw [Option.bind_some]
  by_cases hb : (x0.length : Int) > 65536
  · rw [decide_eq_true hb]; rfl
  rw [decide_eq_false hb, if_neg Bool.false_ne_true]
  obtain ⟨r, C, hd, hr⟩ := drawPk_ok hfu (code := x0) o0.1 (by omega)
  rw [hd, Option.bind_some]
  cases hp : pkOk r C 12 with
  | false =>
    obtain ⟨i1, i2, i3⟩ := inOrder_bad hfu r (by omega) C hp
    have hv : laws_vInts fu [] [] = some true := vInts_self hfu [] (by simp)
    simp only [i1, i2, i3, Option.bind_some, hv, bne_self_eq_false, Bool.false_eq_true, if_false, Bool.not_true, Bool.not_false, if_true, beq_self_eq_true]
  | true =>
    obtain ⟨c1, c2, c3, c4, c5⟩ := pkOk_to hp
    obtain ⟨i1, i2⟩ := inOrder_eq hfu r (by omega) C hp
    obtain ⟨o, m, i3, hm, hV⟩ := descend_ok hfu r C hp
    obtain ⟨m2, hm2, hV2⟩ := pk_vld (r := r) (C := C) c4 c5 (by omega) (List.Perm.refl (List.range r.length))
    have hv : laws_vInts fu (pk r C (List.range r.length)).1 (pk r C (List.range r.length)).1 = some true := vInts_self hfu _ (by rw [hV2.len]; omega)
    obtain ⟨k8, r8, -, v8⟩ := rPacked_ok hfu c4 c2 hm2 (by omega) hV2
    obtain ⟨k9, r9, -, v9⟩ := rPacked_ok hfu c4 c2 hm (by omega) hV
    have n8 : decide ((k8 : Int) < 0) = false := decide_eq_false (by omega)
    have n9 : decide ((k9 : Int) < 0) = false := decide_eq_false (by omega)
    simp only [i1, i2, i3, Option.bind_some, hv, bne_self_eq_false, Bool.false_eq_true, if_false, Bool.not_true, r8, r9, n8, n9]
    cases hp10 : pkOk r C 10 with
    | false =>
      obtain ⟨f1, f2⟩ := fewest_bad hfu (r := r) (by omega) hp10
      simp only [f1, f2, Option.bind_some, bne_self_eq_false, Bool.false_eq_true, if_false, Bool.not_false, if_true, beq_self_eq_true]
    | true =>
      obtain ⟨k, s1, s2, s3⟩ := specFewest_eq hfu hp10
      have f1 := implFewest_eq hfu hp10 s2 s3
      obtain ⟨-, -, c10, -, -⟩ := pkOk_to hp10
      have hk8 := s3 _ (v8.fit c4)
      have hk9 := s3 _ (v9.fit c4)
      have hkr : k ≤ r.length := s3 _ (fit_all r (fun x hx => ⟨c4 x hx, c5 x hx⟩) _ (fun y hy => by rw [List.eq_of_mem_replicate hy]; omega) ⟨0, by rw [List.length_replicate]; omega, fun i _ hi => by rw [gd_in 0 hi, List.getElem_replicate]; exact Int.le_refl _⟩)
      have hx : ∀ x ∈ r, 0 ≤ x ∧ x ≤ 10000 := fun x hx => ⟨c4 x hx, Int.le_trans (c5 x hx) c2⟩
      obtain ⟨z, hz⟩ := sumPk (fu := fu) (r := r) (C := C) hx (by omega) fu 0 (by omega) (by omega)
      have hz' : laws_FnPacking_L1 fu (r, C) fu 0 0 = some (tot r, z) := hz
      have ht := s2.tot_le fun y hy => by rw [List.eq_of_mem_replicate hy]; omega
      rw [tot_rep] at ht
      have hmul : (k : Int) * C ≤ 10 * 10000 := by
        have h1 : (k : Int) * C ≤ 10 * C := Int.mul_le_mul_of_nonneg_right (by omega) (by omega)
        have h2 : 10 * C ≤ 10 * 10000 := by omega
        omega
      have hmul0 : 0 ≤ (k : Int) * C := Int.mul_nonneg (by omega) (by omega)
      have hw : w64 ((k : Int) * C) = (k : Int) * C := w64_in (by omega) (by omega)
      have d8 : decide ((k : Int) ≤ (k8 : Int)) = true := decide_eq_true (by omega)
      have d9 : decide ((k : Int) ≤ (k9 : Int)) = true := decide_eq_true (by omega)
      have dt : decide ((k : Int) * C ≥ tot r) = true := decide_eq_true ht
      simp only [f1, s1, Option.bind_some, bne_self_eq_false, Bool.false_eq_true, if_false, Bool.not_true, hz', d8, d9, if_true, hw, dt]
end AT
