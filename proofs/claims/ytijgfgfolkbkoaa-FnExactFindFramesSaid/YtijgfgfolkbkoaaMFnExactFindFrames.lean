/- FindFrames: the program's and the reference's are one. -/
import Derived.Test.YtijgfgfolkbkoaaQParse
import Derived.Test.YtijgfgfolkbkoaaH
set_option linter.unusedSimpArgs false
namespace AT
theorem find_loop {fu : Nat} (hfu : 2097153 ≤ fu) (l : List Int) (hn : l.length ≤ 400) : ∀ (fk i : Nat) (o : List Int), o.length ≤ i → i ≤ 400 → 400 - i < fk → ∃ r, spec_FindFrames_L1 fu l fk o i = some r ∧ impl_FindFrames_L1 fu l fk o i = some r ∧ r.1.length ≤ 400 := by
  intro fk
  induction fk with
  | zero => intro i _ _ _ h; omega
  | succ fk ih =>
    intro i o ho hi hk
    have e1 : w64 ((i : Int) + 17) = (i : Int) + 17 := w64_in (by omega) (by omega)
    have e2 : w64 ((i : Int) + 17 - 1) = (i : Int) + 16 := by rw [w64_in (by omega) (by omega)]; omega
    have e3 : w64 ((i : Int) + 16 + 1) = ((i + 17 : Nat) : Int) := by rw [w64_in (by omega) (by omega)]; omega
    have e4 : w64 ((i : Int) + 16) = (i : Int) + 16 := w64_in (by omega) (by omega)
    have e5 : w64 ((i : Int) + 1) = ((i + 1 : Nat) : Int) := by rw [w64_in (by omega) (by omega)]; omega
    simp only [spec_FindFrames_L1, impl_FindFrames_L1, e1, e2, e3, e4, e5]
    clear e1 e2 e3 e4 e5
    by_cases h : (i : Int) + 17 ≤ l.length
    · have hs : ∃ p, sub l (i : Int) ((i : Int) + 17) = some p := by
        unfold sub; rw [if_pos (by omega)]; exact ⟨_, rfl⟩
      obtain ⟨p, hp⟩ := hs
      obtain ⟨w, g1, g2, -⟩ := parse_eq hfu p
      have ha : app o [(i : Int)] = some (o ++ [(i : Int)]) := by unfold app; rw [if_pos (by simp; omega)]
      simp only [h, decide_true, if_true, hp, Option.bind_some, g1, g2, ha]
      cases w.2
      · simp only [Bool.false_eq_true, if_false]
        exact ih (i + 1) o (by omega) (by omega) (by omega)
      · simp only [if_true]
        exact ih (i + 17) _ (by simp; omega) (by omega) (by omega)
    · simp only [h, decide_false, Bool.false_eq_true, if_false]
      exact ⟨_, rfl, rfl, by simp only; omega⟩
theorem main_FnExactFindFrames {fu : Nat} (hfu : 2097153 ≤ fu) {x0 : List Int} (_ : ok_IntS x0) (b : B_IntS x0) : ∃ w, spec_FindFrames fu x0 = some w ∧ impl_FindFrames fu x0 = some w ∧ B_IntS w.1 := by
  have hl := b.1
  unfold spec_FindFrames impl_FindFrames
  rw [l23Bytes_eq x0 (by omega) (by omega), areBytes_eq x0 (by omega) (by omega)]
  by_cases h : (x0.length : Int) > 400
  · simp only [h, decide_true, if_true, Option.bind_some]
    exact ⟨_, rfl, rfl, by simp, by simp⟩
  · simp only [h, decide_false, Bool.false_eq_true, if_false, Option.bind_some]
    cases x0.all isByte
    · exact ⟨_, rfl, rfl, by simp, by simp⟩
    · obtain ⟨r, g1, g2, g3⟩ := find_loop hfu x0 (by omega) fu 0 [] (by simp) (by omega) (by omega)
      rw [Int.ofNat_zero] at g1 g2
      simp only [Bool.not_true, Bool.false_eq_true, if_false, g1, g2, Option.bind_some]
      exact ⟨_, rfl, rfl, by simp only; omega, fun _ _ => trivial⟩
end AT
