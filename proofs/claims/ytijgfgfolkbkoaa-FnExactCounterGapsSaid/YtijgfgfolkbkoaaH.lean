/- What the laws' own small functions do (copies, comparisons, sizes, marks), by program (pure.py). -/
import Derived.Test.YtijgfgfolkbkoaaOk
import Derived.Test.YtijgfgfolkbkoaaAtL
set_option linter.unusedVariables false
set_option linter.unusedSimpArgs false
namespace AT
def B_IntS (x : List Int) : Prop := x.length ≤ 2097152 ∧ ∀ e ∈ x, True
def B_Frame (x : Frame) : Prop := B_IntS x.Payload
def B_FrameS (x : List Frame) : Prop := x.length ≤ 2097152 ∧ ∀ e ∈ x, B_Frame e
theorem sz_IntS {fu : Nat} (hfu : 2097153 ≤ fu) {x : List Int} (ho : ok_IntS x) {l : Int} (h0 : 0 ≤ l) (h1 : l ≤ 1048576) : ∃ r, laws_szIntS fu x l = some r ∧ (0 ≤ r → B_IntS x ∧ r ≤ l) := by
  obtain ⟨hoe, hol⟩ := ho
  have e1 : w64 (l - (x.length : Int)) = l - (x.length : Int) := w64_in (by omega) (by omega)
  unfold laws_szIntS
  simp only [e1]
  by_cases hn : l - (x.length : Int) < 0
  · exact ⟨-1, by simp [hn], by omega⟩
  · refine ⟨l - x.length, by simp [hn], fun _ => ⟨⟨by omega, fun e he => trivial⟩, by omega⟩⟩
theorem sz_Frame {fu : Nat} (hfu : 2097153 ≤ fu) {x : Frame} (ho : ok_Frame x) {l : Int} (h0 : 0 ≤ l) (h1 : l ≤ 1048576) : ∃ r, laws_szFrame fu x l = some r ∧ (0 ≤ r → B_Frame x ∧ r ≤ l) := by
  unfold laws_szFrame
  obtain ⟨r0, e0, b0⟩ := sz_IntS hfu (x := x.Payload) (ho.2.2) (l := l) h0 h1
  simp only [e0, Option.bind_some]
  by_cases n0 : r0 < 0
  · exact ⟨-1, by simp [n0], by omega⟩
  obtain ⟨c0, d0⟩ := b0 (by omega)
  simp only [n0, decide_false, Bool.false_eq_true, if_false]
  exact ⟨_, rfl, fun _ => ⟨c0, by omega⟩⟩
theorem sz_FrameS {fu : Nat} (hfu : 2097153 ≤ fu) {x : List Frame} (ho : ok_FrameS x) {l : Int} (h0 : 0 ≤ l) (h1 : l ≤ 1048576) : ∃ r, laws_szFrameS fu x l = some r ∧ (0 ≤ r → B_FrameS x ∧ r ≤ l) := by
  obtain ⟨hoe, hol⟩ := ho
  have e1 : w64 (l - (x.length : Int)) = l - (x.length : Int) := w64_in (by omega) (by omega)
  unfold laws_szFrameS
  simp only [e1]
  by_cases hn : l - (x.length : Int) < 0
  · exact ⟨-1, by simp [hn], by omega⟩
  · obtain ⟨o, h2, h3⟩ := sz_loop x B_Frame (laws_szFrameS_L1 fu x) (fun e l => laws_szFrame fu e l) (by omega) (fun e he l h0 h1 => sz_Frame hfu (hoe e he) h0 h1) (fun fk l i => by rw [laws_szFrameS_L1]) fu 0 (l - x.length) (by omega) (by omega) (by omega) (by omega)
    rw [Int.ofNat_zero] at h2
    simp only [hn, decide_false, Bool.false_eq_true, if_false, h2, Option.bind_some]
    cases o with
    | ret r => exact ⟨r, rfl, fun h => by simp only at h3; omega⟩
    | next z => exact ⟨z.1, rfl, fun _ => ⟨⟨by omega, by simpa using h3.2.2⟩, by have := h3.2.1; omega⟩⟩
theorem to_IntS {fu : Nat} (hfu : 2097153 ≤ fu) {x : List Int} (h : B_IntS x) : laws_toIntS fu x = some x := by
  have hl := h.1
  unfold laws_toIntS
  rw [mk_len h.1, Option.bind_some, to_all0 x (laws_toIntS_L1 fu x) h.1 (fun fk o i => by rw [laws_toIntS_L1]) fu _ (by simp) (by omega)]
  rfl
theorem to_Frame {fu : Nat} (hfu : 2097153 ≤ fu) {x : Frame} (h : B_Frame x) : laws_toFrame fu x = some x := by
  simp [laws_toFrame, to_IntS hfu (h)]
theorem to_FrameS {fu : Nat} (hfu : 2097153 ≤ fu) {x : List Frame} (h : B_FrameS x) : laws_toFrameS fu x = some x := by
  have hl := h.1
  unfold laws_toFrameS
  rw [mk_len h.1, Option.bind_some, to_all1 x (laws_toFrameS_L1 fu x) (fun e => laws_toFrame fu e) h.1 (fun e he => to_Frame hfu (h.2 e he)) (fun fk o i => by rw [laws_toFrameS_L1]) fu _ (by simp) (by omega)]
  rfl
theorem eq_IntS {fu : Nat} (hfu : 2097153 ≤ fu) {x : List Int} (h : B_IntS x) : laws_eqIntS fu x x = some true := by
  have hl := h.1
  unfold laws_eqIntS
  rw [if_neg (by simp), eq_all0 x (laws_eqIntS_L1 fu x x) h.1 (fun fk i => by rw [laws_eqIntS_L1]) fu (by omega)]
  rfl
theorem eq_Frame {fu : Nat} (hfu : 2097153 ≤ fu) {x : Frame} (h : B_Frame x) : laws_eqFrame fu x x = some true := by
  simp [laws_eqFrame, eq_IntS hfu (h)]
theorem eq_FrameS {fu : Nat} (hfu : 2097153 ≤ fu) {x : List Frame} (h : B_FrameS x) : laws_eqFrameS fu x x = some true := by
  have hl := h.1
  unfold laws_eqFrameS
  rw [if_neg (by simp), eq_all1 x (laws_eqFrameS_L1 fu x x) (fun e e2 => laws_eqFrame fu e e2) h.1 (fun e he => eq_Frame hfu (h.2 e he)) (fun fk i => by rw [laws_eqFrameS_L1]) fu (by omega)]
  rfl
theorem mo_IntS {fu : Nat} (hfu : 2097153 ≤ fu) {x : List Int} (h : B_IntS x) {k : Int} (h0 : 0 ≤ k) (h1 : k ≤ 1152921504606846976) : ∃ k' x', laws_markIntS fu x k = some (k', x') ∧ k ≤ k' ∧ k' ≤ k + 2097152 := by
  obtain ⟨k', a', g1, g5, g6⟩ := mark_only (fun e => True) 1 2305843009213693888 (by omega) (by omega) (laws_markIntS_L1 fu)
    (fun (e : Int) (k : Int) => some ((w64 (k + 1)), k))
    (fun e k hb h0 h1 => by
      have w0 : w64 (k + 1) = k + 1 := w64_in (by omega) (by omega)
      refine ⟨(k + 1), k, ?_, by omega, by omega⟩ <;> simp [w0])
    (fun fk a i k hi => by
      rw [laws_markIntS_L1, if_pos (by simpa using hi)]
      simp [idx_in hi, idx_set hi, Option.bind_assoc])
    (fun fk a k => by rw [laws_markIntS_L1, if_neg (by simp)])
    x.length 0 x k h.1 (by omega) (by omega) (fun e he => h.2 e (by simpa using he)) h0 (by have := h.1; omega)
  have hl := h.1
  refine ⟨k', a', ?_, g5, by omega⟩
  · unfold laws_markIntS; rw [show (0 : Int) = ((0 : Nat) : Int) from rfl, g1 fu (by omega)]; rfl
theorem mo_FrameS {fu : Nat} (hfu : 2097153 ≤ fu) {x : List Frame} (h : B_FrameS x) {k : Int} (h0 : 0 ≤ k) (h1 : k ≤ 576460752303423488) : ∃ k' x', laws_markFrameS fu x k = some (k', x') ∧ k ≤ k' ∧ k' ≤ k + 4398050705408 := by
  obtain ⟨k', a', g1, g5, g6⟩ := mark_only (fun e => B_Frame e) 2097154 1152921504606846912 (by omega) (by omega) (laws_markFrameS_L1 fu)
    (fun (e : Frame) (k : Int) => (laws_markIntS fu e.Payload (w64 ((w64 (k + 1)) + 1))).bind fun y1 => some (y1.1, ({ Counter := k, Pointer := (w64 (k + 1)), Payload := y1.2 } : Frame)))
    (fun e k hb h0 h1 => by
      have w0 : w64 (k + 1) = k + 1 := w64_in (by omega) (by omega)
      have w1 : w64 ((k + 1) + 1) = (k + 1) + 1 := w64_in (by omega) (by omega)
      obtain ⟨q1, x1, m1, l1, u1⟩ := mo_IntS hfu (hb) (k := ((k + 1) + 1)) (by omega) (by omega)
      have n1 : ¬ q1 < 0 := by omega
      refine ⟨q1, ({ Counter := k, Pointer := (k + 1), Payload := x1 } : Frame), ?_, by omega, by omega⟩ <;> simp [w0, w1, m1, n1])
    (fun fk a i k hi => by
      rw [laws_markFrameS_L1, if_pos (by simpa using hi)]
      simp [idx_in hi, idx_set hi, Option.bind_assoc])
    (fun fk a k => by rw [laws_markFrameS_L1, if_neg (by simp)])
    x.length 0 x k h.1 (by omega) (by omega) (fun e he => h.2 e (by simpa using he)) h0 (by have := h.1; omega)
  have hl := h.1
  refine ⟨k', a', ?_, g5, by omega⟩
  · unfold laws_markFrameS; rw [show (0 : Int) = ((0 : Nat) : Int) from rfl, g1 fu (by omega)]; rfl
theorem mk_IntS {fu : Nat} (hfu : 2097153 ≤ fu) {x : List Int} (h : B_IntS x) {k : Int} (h0 : 0 ≤ k) (h1 : k ≤ 1152921504606846976) : ∃ k' x', laws_markIntS fu x k = some (k', x') ∧ laws_heldIntS fu x' k = some k' ∧ k ≤ k' ∧ k' ≤ k + 2097152 := by
  obtain ⟨k', a', g1, g2, -, g4, g5, g6⟩ := mark_list (fun e => True) 1 2305843009213693888 (by omega) (by omega) (laws_markIntS_L1 fu) (fun a => laws_heldIntS_L1 fu a)
    (fun (e : Int) (k : Int) => some ((w64 (k + 1)), k))
    (fun (e : Int) (k : Int) => if e != k then some (.ret (-1)) else some (.next (w64 (k + 1))))
    (fun e k hb h0 h1 => by
      have w0 : w64 (k + 1) = k + 1 := w64_in (by omega) (by omega)
      refine ⟨(k + 1), k, ?_, ?_, by omega, by omega⟩ <;> simp [w0])
    (fun fk a i k hi => by
      rw [laws_markIntS_L1, if_pos (by simpa using hi)]
      simp [idx_in hi, idx_set hi, Option.bind_assoc])
    (fun fk a k => by rw [laws_markIntS_L1, if_neg (by simp)])
    (fun a fk i k hi => by
      rw [laws_heldIntS_L1, if_pos (by simpa using hi)]
      simp only [idx_in hi, Option.bind_some]
      repeat (first | rfl | split | (simp only [Option.bind_assoc, Option.bind_some]; congr 1; funext z)))
    (fun a fk k => by rw [laws_heldIntS_L1, if_neg (by simp)])
    x.length 0 x k h.1 (by omega) (by omega) (fun e he => h.2 e (by simpa using he)) h0 (by have := h.1; omega)
  have hl := h.1
  refine ⟨k', a', ?_, ?_, g5, by omega⟩
  · unfold laws_markIntS; rw [show (0 : Int) = ((0 : Nat) : Int) from rfl, g1 fu (by omega)]; rfl
  · unfold laws_heldIntS; rw [show (0 : Int) = ((0 : Nat) : Int) from rfl, g4 fu (by omega)]; rfl
end AT
