/- What the laws' own small functions do (copies, comparisons, sizes, marks), by program (pure.py). -/
import Derived.Test.YtijgfgfolkbkoaaOk
import Derived.Test.YtijgfgfolkbkoaaAtL
set_option linter.unusedVariables false
set_option linter.unusedSimpArgs false
namespace AT
def B_Span (x : Span) : Prop := True
def B_SpanS (x : List Span) : Prop := x.length ≤ 2097152 ∧ ∀ e ∈ x, B_Span e
def B_Amplifier (x : Amplifier) : Prop := True
def B_AmplifierS (x : List Amplifier) : Prop := x.length ≤ 2097152 ∧ ∀ e ∈ x, B_Amplifier e
def B_IntS (x : List Int) : Prop := x.length ≤ 2097152 ∧ ∀ e ∈ x, True
theorem sz_SpanS {fu : Nat} (hfu : 2097153 ≤ fu) {x : List Span} (ho : ok_SpanS x) {l : Int} (h0 : 0 ≤ l) (h1 : l ≤ 1048576) : ∃ r, laws_szSpanS fu x l = some r ∧ (0 ≤ r → B_SpanS x ∧ r ≤ l) := by
  obtain ⟨hoe, hol⟩ := ho
  have e1 : w64 (l - (x.length : Int)) = l - (x.length : Int) := w64_in (by omega) (by omega)
  unfold laws_szSpanS
  simp only [e1]
  by_cases hn : l - (x.length : Int) < 0
  · exact ⟨-1, by simp [hn], by omega⟩
  · refine ⟨l - x.length, by simp [hn], fun _ => ⟨⟨by omega, fun e he => trivial⟩, by omega⟩⟩
theorem sz_AmplifierS {fu : Nat} (hfu : 2097153 ≤ fu) {x : List Amplifier} (ho : ok_AmplifierS x) {l : Int} (h0 : 0 ≤ l) (h1 : l ≤ 1048576) : ∃ r, laws_szAmplifierS fu x l = some r ∧ (0 ≤ r → B_AmplifierS x ∧ r ≤ l) := by
  obtain ⟨hoe, hol⟩ := ho
  have e1 : w64 (l - (x.length : Int)) = l - (x.length : Int) := w64_in (by omega) (by omega)
  unfold laws_szAmplifierS
  simp only [e1]
  by_cases hn : l - (x.length : Int) < 0
  · exact ⟨-1, by simp [hn], by omega⟩
  · refine ⟨l - x.length, by simp [hn], fun _ => ⟨⟨by omega, fun e he => trivial⟩, by omega⟩⟩
theorem to_Span {fu : Nat} (hfu : 2097153 ≤ fu) {x : Span} (h : B_Span x) : laws_toSpan fu x = some x := by
  rfl
theorem to_SpanS {fu : Nat} (hfu : 2097153 ≤ fu) {x : List Span} (h : B_SpanS x) : laws_toSpanS fu x = some x := by
  have hl := h.1
  unfold laws_toSpanS
  rw [mk_len h.1, Option.bind_some, to_all1 x (laws_toSpanS_L1 fu x) (fun e => laws_toSpan fu e) h.1 (fun e he => to_Span hfu (h.2 e he)) (fun fk o i => by rw [laws_toSpanS_L1]) fu _ (by simp) (by omega)]
  rfl
theorem to_Amplifier {fu : Nat} (hfu : 2097153 ≤ fu) {x : Amplifier} (h : B_Amplifier x) : laws_toAmplifier fu x = some x := by
  rfl
theorem to_AmplifierS {fu : Nat} (hfu : 2097153 ≤ fu) {x : List Amplifier} (h : B_AmplifierS x) : laws_toAmplifierS fu x = some x := by
  have hl := h.1
  unfold laws_toAmplifierS
  rw [mk_len h.1, Option.bind_some, to_all1 x (laws_toAmplifierS_L1 fu x) (fun e => laws_toAmplifier fu e) h.1 (fun e he => to_Amplifier hfu (h.2 e he)) (fun fk o i => by rw [laws_toAmplifierS_L1]) fu _ (by simp) (by omega)]
  rfl
theorem eq_IntS {fu : Nat} (hfu : 2097153 ≤ fu) {x : List Int} (h : B_IntS x) : laws_eqIntS fu x x = some true := by
  have hl := h.1
  unfold laws_eqIntS
  rw [if_neg (by simp), eq_all0 x (laws_eqIntS_L1 fu x x) h.1 (fun fk i => by rw [laws_eqIntS_L1]) fu (by omega)]
  rfl
theorem eq_Span {fu : Nat} (hfu : 2097153 ≤ fu) {x : Span} (h : B_Span x) : laws_eqSpan fu x x = some true := by
  simp [laws_eqSpan]
theorem eq_SpanS {fu : Nat} (hfu : 2097153 ≤ fu) {x : List Span} (h : B_SpanS x) : laws_eqSpanS fu x x = some true := by
  have hl := h.1
  unfold laws_eqSpanS
  rw [if_neg (by simp), eq_all1 x (laws_eqSpanS_L1 fu x x) (fun e e2 => laws_eqSpan fu e e2) h.1 (fun e he => eq_Span hfu (h.2 e he)) (fun fk i => by rw [laws_eqSpanS_L1]) fu (by omega)]
  rfl
theorem eq_Amplifier {fu : Nat} (hfu : 2097153 ≤ fu) {x : Amplifier} (h : B_Amplifier x) : laws_eqAmplifier fu x x = some true := by
  simp [laws_eqAmplifier]
theorem eq_AmplifierS {fu : Nat} (hfu : 2097153 ≤ fu) {x : List Amplifier} (h : B_AmplifierS x) : laws_eqAmplifierS fu x x = some true := by
  have hl := h.1
  unfold laws_eqAmplifierS
  rw [if_neg (by simp), eq_all1 x (laws_eqAmplifierS_L1 fu x x) (fun e e2 => laws_eqAmplifier fu e e2) h.1 (fun e he => eq_Amplifier hfu (h.2 e he)) (fun fk i => by rw [laws_eqAmplifierS_L1]) fu (by omega)]
  rfl
theorem mo_SpanS {fu : Nat} (hfu : 2097153 ≤ fu) {x : List Span} (h : B_SpanS x) {k : Int} (h0 : 0 ≤ k) (h1 : k ≤ 1152921504606846976) : ∃ k' x', laws_markSpanS fu x k = some (k', x') ∧ k ≤ k' ∧ k' ≤ k + 6291456 := by
  obtain ⟨k', a', g1, g5, g6⟩ := mark_only (fun e => B_Span e) 3 2305843009213693888 (by omega) (by omega) (laws_markSpanS_L1 fu)
    (fun (e : Span) (k : Int) => some ((w64 ((w64 ((w64 (k + 1)) + 1)) + 1)), ({ Length := k, Loss := (w64 (k + 1)), Splices := (w64 ((w64 (k + 1)) + 1)) } : Span)))
    (fun e k hb h0 h1 => by
      have w0 : w64 (k + 1) = k + 1 := w64_in (by omega) (by omega)
      have w1 : w64 ((k + 1) + 1) = (k + 1) + 1 := w64_in (by omega) (by omega)
      have w2 : w64 (((k + 1) + 1) + 1) = ((k + 1) + 1) + 1 := w64_in (by omega) (by omega)
      refine ⟨(((k + 1) + 1) + 1), ({ Length := k, Loss := (k + 1), Splices := ((k + 1) + 1) } : Span), ?_, by omega, by omega⟩ <;> simp [w0, w1, w2])
    (fun fk a i k hi => by
      rw [laws_markSpanS_L1, if_pos (by simpa using hi)]
      simp [idx_in hi, idx_set hi, Option.bind_assoc])
    (fun fk a k => by rw [laws_markSpanS_L1, if_neg (by simp)])
    x.length 0 x k h.1 (by omega) (by omega) (fun e he => h.2 e (by simpa using he)) h0 (by have := h.1; omega)
  have hl := h.1
  refine ⟨k', a', ?_, g5, by omega⟩
  · unfold laws_markSpanS; rw [show (0 : Int) = ((0 : Nat) : Int) from rfl, g1 fu (by omega)]; rfl
theorem mo_AmplifierS {fu : Nat} (hfu : 2097153 ≤ fu) {x : List Amplifier} (h : B_AmplifierS x) {k : Int} (h0 : 0 ≤ k) (h1 : k ≤ 1152921504606846976) : ∃ k' x', laws_markAmplifierS fu x k = some (k', x') ∧ k ≤ k' ∧ k' ≤ k + 8388608 := by
  obtain ⟨k', a', g1, g5, g6⟩ := mark_only (fun e => B_Amplifier e) 4 2305843009213693888 (by omega) (by omega) (laws_markAmplifierS_L1 fu)
    (fun (e : Amplifier) (k : Int) => some ((w64 ((w64 ((w64 ((w64 (k + 1)) + 1)) + 1)) + 1)), ({ After := k, Gain := (w64 (k + 1)), Output := (w64 ((w64 (k + 1)) + 1)), Noise := (w64 ((w64 ((w64 (k + 1)) + 1)) + 1)) } : Amplifier)))
    (fun e k hb h0 h1 => by
      have w0 : w64 (k + 1) = k + 1 := w64_in (by omega) (by omega)
      have w1 : w64 ((k + 1) + 1) = (k + 1) + 1 := w64_in (by omega) (by omega)
      have w2 : w64 (((k + 1) + 1) + 1) = ((k + 1) + 1) + 1 := w64_in (by omega) (by omega)
      have w3 : w64 ((((k + 1) + 1) + 1) + 1) = (((k + 1) + 1) + 1) + 1 := w64_in (by omega) (by omega)
      refine ⟨((((k + 1) + 1) + 1) + 1), ({ After := k, Gain := (k + 1), Output := ((k + 1) + 1), Noise := (((k + 1) + 1) + 1) } : Amplifier), ?_, by omega, by omega⟩ <;> simp [w0, w1, w2, w3])
    (fun fk a i k hi => by
      rw [laws_markAmplifierS_L1, if_pos (by simpa using hi)]
      simp [idx_in hi, idx_set hi, Option.bind_assoc])
    (fun fk a k => by rw [laws_markAmplifierS_L1, if_neg (by simp)])
    x.length 0 x k h.1 (by omega) (by omega) (fun e he => h.2 e (by simpa using he)) h0 (by have := h.1; omega)
  have hl := h.1
  refine ⟨k', a', ?_, g5, by omega⟩
  · unfold laws_markAmplifierS; rw [show (0 : Int) = ((0 : Nat) : Int) from rfl, g1 fu (by omega)]; rfl
theorem mo_IntS {fu : Nat} (hfu : 2097153 ≤ fu) {x : List Int} (h : B_IntS x) {k : Int} (h0 : 0 ≤ k) (h1 : k ≤ 1152921504606846976) : ∃ k' x', laws_markIntS fu x k = some (k', x') ∧ k ≤ k' ∧ k' ≤ k + 2097152 := by
  obtain ⟨k', a', g1, g5, g6⟩ := mark_only (fun e => True) 1 2305843009213693888 (by omega) (by omega) (laws_markIntS_L1 fu)
    (fun (e : Int) (k : Int) => some ((w64 (k + 1)), k))
    (fun e k hb h0 h1 => by
      have w0 : w64 (k + 1) = k + 1 := w64_in (by omega) (by omega)
      refine ⟨(k + 1), k, ?_, by omega, by omega⟩ <;> simp [w0])
    (fun fk a i k hi => by
      rw [laws_markIntS_L1, if_pos (by simpa using hi)]
      simp [idx_in hi, idx_set hi, Option.bind_assoc])
    (fun fk a k => by rw [laws_markIntS_L1, if_neg (by simp)])
    x.length 0 x k h.1 (by omega) (by omega) (fun e he => h.2 e (by simpa using he)) h0 (by have := h.1; omega)
  have hl := h.1
  refine ⟨k', a', ?_, g5, by omega⟩
  · unfold laws_markIntS; rw [show (0 : Int) = ((0 : Nat) : Int) from rfl, g1 fu (by omega)]; rfl
theorem mk_IntS {fu : Nat} (hfu : 2097153 ≤ fu) {x : List Int} (h : B_IntS x) {k : Int} (h0 : 0 ≤ k) (h1 : k ≤ 1152921504606846976) : ∃ k' x', laws_markIntS fu x k = some (k', x') ∧ laws_heldIntS fu x' k = some k' ∧ k ≤ k' ∧ k' ≤ k + 2097152 := by
  obtain ⟨k', a', g1, g2, -, g4, g5, g6⟩ := mark_list (fun e => True) 1 2305843009213693888 (by omega) (by omega) (laws_markIntS_L1 fu) (fun a => laws_heldIntS_L1 fu a)
    (fun (e : Int) (k : Int) => some ((w64 (k + 1)), k))
    (fun (e : Int) (k : Int) => if e != k then some (.ret (-1)) else some (.next (w64 (k + 1))))
    (fun e k hb h0 h1 => by
      have w0 : w64 (k + 1) = k + 1 := w64_in (by omega) (by omega)
      refine ⟨(k + 1), k, ?_, ?_, by omega, by omega⟩ <;> simp [w0])
    (fun fk a i k hi => by
      rw [laws_markIntS_L1, if_pos (by simpa using hi)]
      simp [idx_in hi, idx_set hi, Option.bind_assoc])
    (fun fk a k => by rw [laws_markIntS_L1, if_neg (by simp)])
    (fun a fk i k hi => by
      rw [laws_heldIntS_L1, if_pos (by simpa using hi)]
      simp only [idx_in hi, Option.bind_some]
      repeat (first | rfl | split | (simp only [Option.bind_assoc, Option.bind_some]; congr 1; funext z)))
    (fun a fk k => by rw [laws_heldIntS_L1, if_neg (by simp)])
    x.length 0 x k h.1 (by omega) (by omega) (fun e he => h.2 e (by simpa using he)) h0 (by have := h.1; omega)
  have hl := h.1
  refine ⟨k', a', ?_, ?_, g5, by omega⟩
  · unfold laws_markIntS; rw [show (0 : Int) = ((0 : Nat) : Int) from rfl, g1 fu (by omega)]; rfl
  · unfold laws_heldIntS; rw [show (0 : Int) = ((0 : Nat) : Int) from rfl, g4 fu (by omega)]; rfl
end AT
