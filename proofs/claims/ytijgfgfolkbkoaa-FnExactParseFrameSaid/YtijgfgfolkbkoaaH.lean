/- What the laws' own small functions do (copies, comparisons, sizes, marks), by program (pure.py). -/
import Derived.Test.YtijgfgfolkbkoaaOk
import Derived.Test.YtijgfgfolkbkoaaAtL
set_option linter.unusedVariables false
set_option linter.unusedSimpArgs false
namespace AT
def B_IntS (x : List Int) : Prop := x.length ≤ 2097152 ∧ ∀ e ∈ x, True
def B_Frame (x : Frame) : Prop := B_IntS x.Payload
theorem to_IntS {fu : Nat} (hfu : 2097153 ≤ fu) {x : List Int} (h : B_IntS x) : laws_toIntS fu x = some x := by
  have hl := h.1
  unfold laws_toIntS
  rw [mk_len h.1, Option.bind_some, to_all0 x (laws_toIntS_L1 fu x) h.1 (fun fk o i => by rw [laws_toIntS_L1]) fu _ (by simp) (by omega)]
  rfl
theorem eq_IntS {fu : Nat} (hfu : 2097153 ≤ fu) {x : List Int} (h : B_IntS x) : laws_eqIntS fu x x = some true := by
  have hl := h.1
  unfold laws_eqIntS
  rw [if_neg (by simp), eq_all0 x (laws_eqIntS_L1 fu x x) h.1 (fun fk i => by rw [laws_eqIntS_L1]) fu (by omega)]
  rfl
theorem eq_Frame {fu : Nat} (hfu : 2097153 ≤ fu) {x : Frame} (h : B_Frame x) : laws_eqFrame fu x x = some true := by
  simp [laws_eqFrame, eq_IntS hfu (h)]
theorem mo_IntS {fu : Nat} (hfu : 2097153 ≤ fu) {x : List Int} (h : B_IntS x) {k : Int} (h0 : 0 ≤ k) (h1 : k ≤ 1152921504606846976) : ∃ k' x', laws_markIntS fu x k = some (k', x') ∧ k ≤ k' ∧ k' ≤ k + 2097152 := by
  obtain ⟨k', a', g1, g5, g6⟩ := mark_only (fun e => True) 1 2305843009213693888 (by omega) (by omega) (laws_markIntS_L1 fu)
    (fun (e : Int) (k : Int) => some ((w64 (k + 1)), k))
    (fun e k hb h0 h1 => by
      have w0 : w64 (k + 1) = k + 1 := w64_in (by omega) (by omega)
      refine ⟨(k + 1), k, ?_, by omega, by omega⟩ <;> simp [w0])
    (fun fk a i k hi => by
      rw [laws_markIntS_L1, if_pos (by simpa using hi)]
      simp [idx_in hi, idx_set hi, Option.bind_assoc])
    (fun fk a k => by rw [laws_markIntS_L1, if_neg (by simp)])
    x.length 0 x k h.1 (by omega) (by omega) (fun e he => h.2 e (by simpa using he)) h0 (by have := h.1; omega)
  have hl := h.1
  refine ⟨k', a', ?_, g5, by omega⟩
  · unfold laws_markIntS; rw [show (0 : Int) = ((0 : Nat) : Int) from rfl, g1 fu (by omega)]; rfl
theorem mo_Frame {fu : Nat} (hfu : 2097153 ≤ fu) {x : Frame} (h : B_Frame x) {k : Int} (h0 : 0 ≤ k) (h1 : k ≤ 576460752303423488) : ∃ k', ∃ (x0 : List Int), laws_markFrame fu x k = some (k', ({ Counter := x.Counter, Pointer := x.Pointer, Payload := x0 } : Frame)) ∧ k ≤ k' ∧ k' ≤ k + 2097154 := by
  obtain ⟨q0, x0, m0, l0, u0⟩ := mo_IntS hfu (h) (k := k) (by omega) (by omega)
  have n0 : ¬ q0 < 0 := by omega
  refine ⟨q0, x0, ?_, by omega, by omega⟩ <;> simp [laws_markFrame, m0, n0]
theorem mk_IntS {fu : Nat} (hfu : 2097153 ≤ fu) {x : List Int} (h : B_IntS x) {k : Int} (h0 : 0 ≤ k) (h1 : k ≤ 1152921504606846976) : ∃ k' x', laws_markIntS fu x k = some (k', x') ∧ laws_heldIntS fu x' k = some k' ∧ k ≤ k' ∧ k' ≤ k + 2097152 := by
  obtain ⟨k', a', g1, g2, -, g4, g5, g6⟩ := mark_list (fun e => True) 1 2305843009213693888 (by omega) (by omega) (laws_markIntS_L1 fu) (fun a => laws_heldIntS_L1 fu a)
    (fun (e : Int) (k : Int) => some ((w64 (k + 1)), k))
    (fun (e : Int) (k : Int) => if e != k then some (.ret (-1)) else some (.next (w64 (k + 1))))
    (fun e k hb h0 h1 => by
      have w0 : w64 (k + 1) = k + 1 := w64_in (by omega) (by omega)
      refine ⟨(k + 1), k, ?_, ?_, by omega, by omega⟩ <;> simp [w0])
    (fun fk a i k hi => by
      rw [laws_markIntS_L1, if_pos (by simpa using hi)]
      simp [idx_in hi, idx_set hi, Option.bind_assoc])
    (fun fk a k => by rw [laws_markIntS_L1, if_neg (by simp)])
    (fun a fk i k hi => by
      rw [laws_heldIntS_L1, if_pos (by simpa using hi)]
      simp only [idx_in hi, Option.bind_some]
      repeat (first | rfl | split | (simp only [Option.bind_assoc, Option.bind_some]; congr 1; funext z)))
    (fun a fk k => by rw [laws_heldIntS_L1, if_neg (by simp)])
    x.length 0 x k h.1 (by omega) (by omega) (fun e he => h.2 e (by simpa using he)) h0 (by have := h.1; omega)
  have hl := h.1
  refine ⟨k', a', ?_, ?_, g5, by omega⟩
  · unfold laws_markIntS; rw [show (0 : Int) = ((0 : Nat) : Int) from rfl, g1 fu (by omega)]; rfl
  · unfold laws_heldIntS; rw [show (0 : Int) = ((0 : Nat) : Int) from rfl, g4 fu (by omega)]; rfl
theorem mk_Frame {fu : Nat} (hfu : 2097153 ≤ fu) {x : Frame} (h : B_Frame x) {k : Int} (h0 : 0 ≤ k) (h1 : k ≤ 576460752303423488) : ∃ k', ∃ (x0 : List Int), laws_markFrame fu x k = some (k', ({ Counter := x.Counter, Pointer := x.Pointer, Payload := x0 } : Frame)) ∧ laws_heldFrame fu ({ Counter := x.Counter, Pointer := x.Pointer, Payload := x0 } : Frame) k = some k' ∧ k ≤ k' ∧ k' ≤ k + 2097154 := by
  obtain ⟨q0, x0, m0, g0, l0, u0⟩ := mk_IntS hfu (h) (k := k) (by omega) (by omega)
  have n0 : ¬ q0 < 0 := by omega
  refine ⟨q0, x0, ?_, ?_, by omega, by omega⟩ <;> simp [laws_markFrame, laws_heldFrame, m0, n0, g0]
end AT
