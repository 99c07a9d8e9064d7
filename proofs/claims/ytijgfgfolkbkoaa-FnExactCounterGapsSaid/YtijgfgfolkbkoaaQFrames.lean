/- Lists of frames, plainly. -/
import Derived.Test.YtijgfgfolkbkoaaQFrame
set_option linter.unusedSimpArgs false
namespace AT
def areOk (l : List Frame) : Bool := decide (l.length ≤ 12) && l.all isFrame
theorem areFrames_eq {fu : Nat} (hfu : 2097153 ≤ fu) (l : List Frame) : impl_areFrames fu l = some (areOk l) := by
  unfold impl_areFrames areOk
  by_cases h : l.length ≤ 12
  · have h' : (l.length : Int) ≤ 12 := by omega
    simp only [h, h', decide_true, if_true, Bool.true_and]
    unfold slices_ContainsFunc_impl_Frame_impl_Frame_of_areFrames_c1 slices_IndexFunc_impl_Frame_impl_Frame_of_areFrames_c1
    rw [scan_all (l := l) (G := slices_IndexFunc_impl_Frame_impl_Frame_of_areFrames_c1_L1 fu l) (fun b => !isFrame b) (fun i => (i : Int)) (by omega)
      (fun fk i hi => by rw [slices_IndexFunc_impl_Frame_impl_Frame_of_areFrames_c1_L1, if_pos (by simpa using hi), idx_in hi]; simp [impl_areFrames_c1, isValidFrame_eq l[i] (show 13 ≤ fu by omega)])
      (fun fk => by rw [slices_IndexFunc_impl_Frame_impl_Frame_of_areFrames_c1_L1, if_neg (by simp)]) fu (by omega)]
    have hc : l.all isFrame = !(l.any fun b => !isFrame b) := List.all_eq_not_any_not
    rw [hc]
    cases l.any (fun b => !isFrame b) <;> simp [Out.on]
  · have h' : ¬ (l.length : Int) ≤ 12 := by omega
    simp [h, h']
theorem l23Frames_eq {fu : Nat} (hfu : 2097153 ≤ fu) (l : List Frame) : spec_l23Frames fu l = some (areOk l) := by
  unfold spec_l23Frames areOk
  rw [scan_all (l := l.take 13) (G := spec_l23Frames_L1 fu l) (fun b => !isFrame b) (fun i => false) (by simp; omega)
    (fun fk i hi => by
      have h1 : i < l.length := by simp at hi; omega
      have h2 : i ≤ 12 := by simp at hi; omega
      have h1' : (i : Int) < l.length := by omega
      have h2' : (i : Int) ≤ 12 := by omega
      rw [spec_l23Frames_L1]
      simp only [h1', h2', decide_true, if_true, Option.bind_some, idx_in h1, l23Good_eq l[i] (show 13 ≤ fu by omega), List.getElem_take])
    (fun fk => by
      rw [spec_l23Frames_L1]
      by_cases h : l.length ≤ 12
      · have : ¬ (((l.take 13).length : Int) < l.length) := by simp; omega
        simp only [this, decide_false, Bool.false_eq_true, if_false, Option.bind_some]
      · have h1 : ¬ (((l.take 13).length : Int) ≤ 12) := by simp; omega
        have h2 : (((l.take 13).length : Int) < l.length) ∨ ¬ (((l.take 13).length : Int) < l.length) := Classical.em _
        rcases h2 with h2 | h2
        · simp only [h1, h2, decide_true, decide_false, if_true, Bool.false_eq_true, if_false, Option.bind_some]
        · simp only [h2, decide_false, Bool.false_eq_true, if_false, Option.bind_some]) fu (by simp; omega)]
  have hd : decide ((l.length : Int) ≤ 12) = decide (l.length ≤ 12) := by simp only [decide_eq_decide]; omega
  rw [hd]
  by_cases h : l.length ≤ 12
  · rw [List.take_of_length_le (by omega)]
    have hc : l.all isFrame = !(l.any fun b => !isFrame b) := List.all_eq_not_any_not
    rw [hc]
    cases l.any (fun b => !isFrame b) <;> simp [Out.on, h]
  · cases (l.take 13).any (fun b => !isFrame b) <;> simp [Out.on, h]
end AT
