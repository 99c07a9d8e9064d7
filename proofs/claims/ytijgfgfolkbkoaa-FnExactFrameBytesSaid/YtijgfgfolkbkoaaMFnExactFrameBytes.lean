/- FrameBytes: the program's and the reference's are one. -/
import Derived.Test.YtijgfgfolkbkoaaQFrame
import Derived.Test.YtijgfgfolkbkoaaH
set_option linter.unusedSimpArgs false
namespace AT
theorem parity_loop {fu : Nat} (l : List Int) (hn : l.length ≤ 2097152) : ∀ (fk i : Nat) (o : Int), i ≤ l.length → l.length - i < fk → ∃ r, spec_l23Parity_L1 fu l fk o i = some r ∧ impl_bytesOf_L1 fu l fk o i = some r := by
  intro fk
  induction fk with
  | zero => intro i _ _ h; omega
  | succ fk ih =>
    intro i o hi hk
    rw [spec_l23Parity_L1, impl_bytesOf_L1]
    by_cases h : i < l.length
    · rw [if_pos (by simpa using h), if_pos (by simpa using h), idx_in h, Option.bind_some, Option.bind_some, w64_inc h (by omega)]
      exact ih _ _ h (by omega)
    · obtain rfl : i = l.length := by omega
      rw [if_neg (by simp), if_neg (by simp)]
      exact ⟨_, rfl, rfl⟩
theorem bytes_eq {fu : Nat} (hfu : 2097153 ≤ fu) (f : Frame) (h : f.Payload.length = 12) : ∃ l, spec_l23List fu f = some l ∧ impl_bytesOf fu f = some l ∧ l.length = 17 := by
  have ha : app [246, 40, f.Counter, f.Pointer] f.Payload = some ([246, 40, f.Counter, f.Pointer] ++ f.Payload) := by
    unfold app; rw [if_pos (by simp; omega)]
  have hl : ([246, 40, f.Counter, f.Pointer] ++ f.Payload).length = 16 := by simp; omega
  unfold spec_l23List impl_bytesOf spec_l23Parity
  rw [ha]
  generalize [246, 40, f.Counter, f.Pointer] ++ f.Payload = l at hl
  obtain ⟨r, h1, h2⟩ := parity_loop (fu := fu) l (by omega) fu 0 0 (by omega) (by omega)
  rw [Int.ofNat_zero] at h1 h2
  simp only [Option.bind_some, h1, h2]
  have hb : app l [r.1] = some (l ++ [r.1]) := by unfold app; rw [if_pos (by simp; omega)]
  rw [hb]
  exact ⟨_, rfl, rfl, by simp [hl]⟩
theorem main_FnExactFrameBytes {fu : Nat} (hfu : 2097153 ≤ fu) {x0 : Frame} (_ : ok_Frame x0) (_ : B_Frame x0) : ∃ w, spec_FrameBytes fu x0 = some w ∧ impl_FrameBytes fu x0 = some w ∧ B_IntS w.1 := by
  unfold spec_FrameBytes impl_FrameBytes
  rw [l23Good_eq x0 (by omega), isValidFrame_eq x0 (by omega)]
  cases hf : isFrame x0
  · exact ⟨_, rfl, rfl, by simp, by simp⟩
  · unfold isFrame at hf
    simp only [Bool.and_eq_true, beq_iff_eq] at hf
    obtain ⟨l, h1, h2, h3⟩ := bytes_eq hfu x0 hf.1.2
    simp only [Option.bind_some, Bool.not_true, Bool.false_eq_true, if_false, h1, h2]
    exact ⟨_, rfl, rfl, by simp only; omega, fun _ _ => trivial⟩
end AT
