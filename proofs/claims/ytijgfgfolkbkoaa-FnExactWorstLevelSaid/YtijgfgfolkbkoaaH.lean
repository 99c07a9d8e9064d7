/- What the laws' own small functions do (copies, comparisons, sizes, marks), by program (pure.py). -/
import Derived.Test.YtijgfgfolkbkoaaOk
import Derived.Test.YtijgfgfolkbkoaaAtL
set_option linter.unusedVariables false
set_option linter.unusedSimpArgs false
namespace AT
def B_Span (x : Span) : Prop := True
def B_SpanS (x : List Span) : Prop := x.length ≤ 2097152 ∧ ∀ e ∈ x, B_Span e
def B_Amplifier (x : Amplifier) : Prop := True
def B_AmplifierS (x : List Amplifier) : Prop := x.length ≤ 2097152 ∧ ∀ e ∈ x, B_Amplifier e
theorem sz_SpanS {fu : Nat} (hfu : 2097153 ≤ fu) {x : List Span} (ho : ok_SpanS x) {l : Int} (h0 : 0 ≤ l) (h1 : l ≤ 1048576) : ∃ r, laws_szSpanS fu x l = some r ∧ (0 ≤ r → B_SpanS x ∧ r ≤ l) := by
  obtain ⟨hoe, hol⟩ := ho
  have e1 : w64 (l - (x.length : Int)) = l - (x.length : Int) := w64_in (by omega) (by omega)
  unfold laws_szSpanS
  simp only [e1]
  by_cases hn : l - (x.length : Int) < 0
  · exact ⟨-1, by simp [hn], by omega⟩
  · refine ⟨l - x.length, by simp [hn], fun _ => ⟨⟨by omega, fun e he => trivial⟩, by omega⟩⟩
theorem sz_AmplifierS {fu : Nat} (hfu : 2097153 ≤ fu) {x : List Amplifier} (ho : ok_AmplifierS x) {l : Int} (h0 : 0 ≤ l) (h1 : l ≤ 1048576) : ∃ r, laws_szAmplifierS fu x l = some r ∧ (0 ≤ r → B_AmplifierS x ∧ r ≤ l) := by
  obtain ⟨hoe, hol⟩ := ho
  have e1 : w64 (l - (x.length : Int)) = l - (x.length : Int) := w64_in (by omega) (by omega)
  unfold laws_szAmplifierS
  simp only [e1]
  by_cases hn : l - (x.length : Int) < 0
  · exact ⟨-1, by simp [hn], by omega⟩
  · refine ⟨l - x.length, by simp [hn], fun _ => ⟨⟨by omega, fun e he => trivial⟩, by omega⟩⟩
theorem to_Span {fu : Nat} (hfu : 2097153 ≤ fu) {x : Span} (h : B_Span x) : laws_toSpan fu x = some x := by
  rfl
theorem to_SpanS {fu : Nat} (hfu : 2097153 ≤ fu) {x : List Span} (h : B_SpanS x) : laws_toSpanS fu x = some x := by
  have hl := h.1
  unfold laws_toSpanS
  rw [mk_len h.1, Option.bind_some, to_all1 x (laws_toSpanS_L1 fu x) (fun e => laws_toSpan fu e) h.1 (fun e he => to_Span hfu (h.2 e he)) (fun fk o i => by rw [laws_toSpanS_L1]) fu _ (by simp) (by omega)]
  rfl
theorem to_Amplifier {fu : Nat} (hfu : 2097153 ≤ fu) {x : Amplifier} (h : B_Amplifier x) : laws_toAmplifier fu x = some x := by
  rfl
theorem to_AmplifierS {fu : Nat} (hfu : 2097153 ≤ fu) {x : List Amplifier} (h : B_AmplifierS x) : laws_toAmplifierS fu x = some x := by
  have hl := h.1
  unfold laws_toAmplifierS
  rw [mk_len h.1, Option.bind_some, to_all1 x (laws_toAmplifierS_L1 fu x) (fun e => laws_toAmplifier fu e) h.1 (fun e he => to_Amplifier hfu (h.2 e he)) (fun fk o i => by rw [laws_toAmplifierS_L1]) fu _ (by simp) (by omega)]
  rfl
theorem eq_Span {fu : Nat} (hfu : 2097153 ≤ fu) {x : Span} (h : B_Span x) : laws_eqSpan fu x x = some true := by
  simp [laws_eqSpan]
theorem eq_SpanS {fu : Nat} (hfu : 2097153 ≤ fu) {x : List Span} (h : B_SpanS x) : laws_eqSpanS fu x x = some true := by
  have hl := h.1
  unfold laws_eqSpanS
  rw [if_neg (by simp), eq_all1 x (laws_eqSpanS_L1 fu x x) (fun e e2 => laws_eqSpan fu e e2) h.1 (fun e he => eq_Span hfu (h.2 e he)) (fun fk i => by rw [laws_eqSpanS_L1]) fu (by omega)]
  rfl
theorem eq_Amplifier {fu : Nat} (hfu : 2097153 ≤ fu) {x : Amplifier} (h : B_Amplifier x) : laws_eqAmplifier fu x x = some true := by
  simp [laws_eqAmplifier]
theorem eq_AmplifierS {fu : Nat} (hfu : 2097153 ≤ fu) {x : List Amplifier} (h : B_AmplifierS x) : laws_eqAmplifierS fu x x = some true := by
  have hl := h.1
  unfold laws_eqAmplifierS
  rw [if_neg (by simp), eq_all1 x (laws_eqAmplifierS_L1 fu x x) (fun e e2 => laws_eqAmplifier fu e e2) h.1 (fun e he => eq_Amplifier hfu (h.2 e he)) (fun fk i => by rw [laws_eqAmplifierS_L1]) fu (by omega)]
  rfl
end AT
