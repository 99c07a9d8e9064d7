/- Frames, plainly: the bytes and the validity of a frame. -/
import Derived.Test.YtijgfgfolkbkoaaP1
import Derived.Test.YtijgfgfolkbkoaaAtL
set_option linter.unusedSimpArgs false
namespace AT
def isByte (b : Int) : Bool := decide (0 ≤ b) && decide (b ≤ 255)
theorem areBytes_eq {fu : Nat} (l : List Int) (h : l.length < fu) (hn : (l.length : Int) ≤ 9223372036854775807) : impl_areBytes fu l = some (l.all isByte) := by
  unfold impl_areBytes slices_ContainsFunc_int_int_of_areBytes_c1 slices_IndexFunc_int_int_of_areBytes_c1
  rw [scan_all (l := l) (G := slices_IndexFunc_int_int_of_areBytes_c1_L1 fu l) (fun b => !isByte b) (fun i => (i : Int)) hn
    (fun fk i hi => by rw [slices_IndexFunc_int_int_of_areBytes_c1_L1, if_pos (by simpa using hi), idx_in hi]; simp [impl_areBytes_c1, isByte])
    (fun fk => by rw [slices_IndexFunc_int_int_of_areBytes_c1_L1, if_neg (by simp)]) fu h]
  by_cases hb : l.any (fun b => !isByte b) = true
  · rw [if_pos hb]
    have : l.all isByte = false := by
      rw [List.all_eq_not_any_not, hb]; rfl
    simp [Out.on, this]
  · rw [if_neg hb]
    have : l.all isByte = true := by
      rw [List.all_eq_not_any_not, Bool.not_eq_true _ |>.mp hb]; rfl
    simp [Out.on, this]
theorem l23Bytes_eq {fu : Nat} (l : List Int) (h : l.length < fu) (hn : (l.length : Int) ≤ 9223372036854775807) : spec_l23Bytes fu l = some (l.all isByte) := by
  unfold spec_l23Bytes
  rw [scan_all (l := l) (G := spec_l23Bytes_L1 fu l) (fun b => !isByte b) (fun i => false) hn
    (fun fk i hi => by rw [spec_l23Bytes_L1, if_pos (by simpa using hi), idx_in hi]; simp only [l1In_eq, Option.bind_some, isByte]; rfl)
    (fun fk => by rw [spec_l23Bytes_L1, if_neg (by simp)]) fu h]
  by_cases hb : l.any (fun b => !isByte b) = true
  · rw [if_pos hb]
    have : l.all isByte = false := by
      rw [List.all_eq_not_any_not, hb]; rfl
    simp [Out.on, this]
  · rw [if_neg hb]
    have : l.all isByte = true := by
      rw [List.all_eq_not_any_not, Bool.not_eq_true _ |>.mp hb]; rfl
    simp [Out.on, this]
def isFrame (f : Frame) : Bool := decide (0 ≤ f.Counter) && decide (f.Counter ≤ 255) && (decide (0 ≤ f.Pointer) && decide (f.Pointer ≤ 11)) && (f.Payload.length == 12) && f.Payload.all isByte
theorem l23Good_eq {fu : Nat} (f : Frame) (h : 13 ≤ fu) : spec_l23Good fu f = some (isFrame f) := by
  unfold spec_l23Good isFrame
  simp only [l1In_eq, Option.bind_some]
  generalize (decide (0 ≤ f.Counter) && decide (f.Counter ≤ 255)) = a
  generalize (decide (0 ≤ f.Pointer) && decide (f.Pointer ≤ 11)) = b
  cases a
  · rfl
  cases b
  · rfl
  by_cases hl : f.Payload.length = 12
  · simp [hl, l23Bytes_eq f.Payload (fu := fu) (by omega) (by omega)]
  · have : ¬ ((f.Payload.length : Int) = 12) := by omega
    simp [hl, this]
theorem isValidFrame_eq {fu : Nat} (f : Frame) (h : 13 ≤ fu) : impl_IsValidFrame fu f = some (isFrame f) := by
  unfold impl_IsValidFrame isFrame
  simp only [within_eq, Option.bind_some]
  generalize (decide (0 ≤ f.Counter) && decide (f.Counter ≤ 255)) = a
  generalize (decide (0 ≤ f.Pointer) && decide (f.Pointer ≤ 11)) = b
  cases a
  · rfl
  cases b
  · rfl
  by_cases hl : f.Payload.length = 12
  · simp [hl, areBytes_eq f.Payload (fu := fu) (by omega) (by omega)]
  · have : ¬ ((f.Payload.length : Int) = 12) := by omega
    simp [hl, this]
end AT
