/- What the laws' own small functions do (copies, comparisons, sizes, marks), by program (pure.py). -/
import Derived.Test.YtmokfdffnijbbaaGreatOk
import Derived.Test.YtmokfdffnijbbaaGreatAtL
set_option linter.unusedVariables false
set_option linter.unusedSimpArgs false
namespace AT
def B_StringS (x : List ByteArray) : Prop := x.length ≤ 2097152 ∧ ∀ e ∈ x, e.size ≤ 2097152
def B_Fiber (x : Fiber) : Prop := True
def B_FiberS (x : List Fiber) : Prop := x.length ≤ 2097152 ∧ ∀ e ∈ x, B_Fiber e
def B_Network (x : Network) : Prop := B_StringS x.Nodes ∧ B_FiberS x.Fibers
def B_IntS (x : List Int) : Prop := x.length ≤ 2097152 ∧ ∀ e ∈ x, True
def B_Route (x : Route) : Prop := B_IntS x.Fibers
def B_Block (x : Block) : Prop := True
def B_Light (x : Light) : Prop := B_Route x.Route ∧ B_Block x.Block
def B_LightS (x : List Light) : Prop := x.length ≤ 2097152 ∧ ∀ e ∈ x, B_Light e
def B_Plan (x : Plan) : Prop := B_Network x.Network ∧ B_LightS x.Lights
theorem sz_StringS {fu : Nat} (hfu : 2097153 ≤ fu) {x : List ByteArray} (ho : ok_StrS x) {l : Int} (h0 : 0 ≤ l) (h1 : l ≤ 1048576) : ∃ r, laws_szStringS fu x l = some r ∧ (0 ≤ r → B_StringS x ∧ r ≤ l) := by
  obtain ⟨hoe, hol⟩ := ho
  have e1 : w64 (l - (x.length : Int)) = l - (x.length : Int) := w64_in (by omega) (by omega)
  unfold laws_szStringS
  simp only [e1]
  by_cases hn : l - (x.length : Int) < 0
  · exact ⟨-1, by simp [hn], by omega⟩
  · obtain ⟨o, h2, h3⟩ := sz_loop x (fun e => e.size ≤ 2097152) (laws_szStringS_L1 fu x) (fun e l => some (w64 (l - (e.size : Int)))) (by omega) (fun e he l h0 h1 => ⟨_, rfl, fun h => by have := hoe e he; unfold ok_Str at this; rw [w64_in (by omega) (by omega)] at h ⊢; omega⟩) (fun fk l i => by rw [laws_szStringS_L1]; rfl) fu 0 (l - x.length) (by omega) (by omega) (by omega) (by omega)
    rw [Int.ofNat_zero] at h2
    simp only [hn, decide_false, Bool.false_eq_true, if_false, h2, Option.bind_some]
    cases o with
    | ret r => exact ⟨r, rfl, fun h => by simp only at h3; omega⟩
    | next z => exact ⟨z.1, rfl, fun _ => ⟨⟨by omega, by simpa using h3.2.2⟩, by have := h3.2.1; omega⟩⟩
theorem sz_FiberS {fu : Nat} (hfu : 2097153 ≤ fu) {x : List Fiber} (ho : ok_FiberS x) {l : Int} (h0 : 0 ≤ l) (h1 : l ≤ 1048576) : ∃ r, laws_szFiberS fu x l = some r ∧ (0 ≤ r → B_FiberS x ∧ r ≤ l) := by
  obtain ⟨hoe, hol⟩ := ho
  have e1 : w64 (l - (x.length : Int)) = l - (x.length : Int) := w64_in (by omega) (by omega)
  unfold laws_szFiberS
  simp only [e1]
  by_cases hn : l - (x.length : Int) < 0
  · exact ⟨-1, by simp [hn], by omega⟩
  · refine ⟨l - x.length, by simp [hn], fun _ => ⟨⟨by omega, fun e he => trivial⟩, by omega⟩⟩
theorem sz_Network {fu : Nat} (hfu : 2097153 ≤ fu) {x : Network} (ho : ok_Network x) {l : Int} (h0 : 0 ≤ l) (h1 : l ≤ 1048576) : ∃ r, laws_szNetwork fu x l = some r ∧ (0 ≤ r → B_Network x ∧ r ≤ l) := by
  unfold laws_szNetwork
  obtain ⟨r0, e0, b0⟩ := sz_StringS hfu (x := x.Nodes) (ho.1) (l := l) h0 h1
  simp only [e0, Option.bind_some]
  by_cases n0 : r0 < 0
  · exact ⟨-1, by simp [n0], by omega⟩
  obtain ⟨c0, d0⟩ := b0 (by omega)
  simp only [n0, decide_false, Bool.false_eq_true, if_false]
  obtain ⟨r1, e1, b1⟩ := sz_FiberS hfu (x := x.Fibers) (ho.2) (l := r0) (by omega) (by omega)
  simp only [e1, Option.bind_some]
  by_cases n1 : r1 < 0
  · exact ⟨-1, by simp [n1], by omega⟩
  obtain ⟨c1, d1⟩ := b1 (by omega)
  simp only [n1, decide_false, Bool.false_eq_true, if_false]
  exact ⟨_, rfl, fun _ => ⟨⟨c0, c1⟩, by omega⟩⟩
theorem sz_IntS {fu : Nat} (hfu : 2097153 ≤ fu) {x : List Int} (ho : ok_IntS x) {l : Int} (h0 : 0 ≤ l) (h1 : l ≤ 1048576) : ∃ r, laws_szIntS fu x l = some r ∧ (0 ≤ r → B_IntS x ∧ r ≤ l) := by
  obtain ⟨hoe, hol⟩ := ho
  have e1 : w64 (l - (x.length : Int)) = l - (x.length : Int) := w64_in (by omega) (by omega)
  unfold laws_szIntS
  simp only [e1]
  by_cases hn : l - (x.length : Int) < 0
  · exact ⟨-1, by simp [hn], by omega⟩
  · refine ⟨l - x.length, by simp [hn], fun _ => ⟨⟨by omega, fun e he => trivial⟩, by omega⟩⟩
theorem sz_Route {fu : Nat} (hfu : 2097153 ≤ fu) {x : Route} (ho : ok_Route x) {l : Int} (h0 : 0 ≤ l) (h1 : l ≤ 1048576) : ∃ r, laws_szRoute fu x l = some r ∧ (0 ≤ r → B_Route x ∧ r ≤ l) := by
  unfold laws_szRoute
  obtain ⟨r0, e0, b0⟩ := sz_IntS hfu (x := x.Fibers) (ho.2) (l := l) h0 h1
  simp only [e0, Option.bind_some]
  by_cases n0 : r0 < 0
  · exact ⟨-1, by simp [n0], by omega⟩
  obtain ⟨c0, d0⟩ := b0 (by omega)
  simp only [n0, decide_false, Bool.false_eq_true, if_false]
  exact ⟨_, rfl, fun _ => ⟨c0, by omega⟩⟩
theorem sz_Light {fu : Nat} (hfu : 2097153 ≤ fu) {x : Light} (ho : ok_Light x) {l : Int} (h0 : 0 ≤ l) (h1 : l ≤ 1048576) : ∃ r, laws_szLight fu x l = some r ∧ (0 ≤ r → B_Light x ∧ r ≤ l) := by
  unfold laws_szLight
  obtain ⟨r0, e0, b0⟩ := sz_Route hfu (x := x.Route) (ho.2.1) (l := l) h0 h1
  simp only [e0, Option.bind_some]
  by_cases n0 : r0 < 0
  · exact ⟨-1, by simp [n0], by omega⟩
  obtain ⟨c0, d0⟩ := b0 (by omega)
  simp only [n0, decide_false, Bool.false_eq_true, if_false]
  exact ⟨_, rfl, fun _ => ⟨⟨c0, trivial⟩, by omega⟩⟩
theorem sz_LightS {fu : Nat} (hfu : 2097153 ≤ fu) {x : List Light} (ho : ok_LightS x) {l : Int} (h0 : 0 ≤ l) (h1 : l ≤ 1048576) : ∃ r, laws_szLightS fu x l = some r ∧ (0 ≤ r → B_LightS x ∧ r ≤ l) := by
  obtain ⟨hoe, hol⟩ := ho
  have e1 : w64 (l - (x.length : Int)) = l - (x.length : Int) := w64_in (by omega) (by omega)
  unfold laws_szLightS
  simp only [e1]
  by_cases hn : l - (x.length : Int) < 0
  · exact ⟨-1, by simp [hn], by omega⟩
  · obtain ⟨o, h2, h3⟩ := sz_loop x B_Light (laws_szLightS_L1 fu x) (fun e l => laws_szLight fu e l) (by omega) (fun e he l h0 h1 => sz_Light hfu (hoe e he) h0 h1) (fun fk l i => by rw [laws_szLightS_L1]) fu 0 (l - x.length) (by omega) (by omega) (by omega) (by omega)
    rw [Int.ofNat_zero] at h2
    simp only [hn, decide_false, Bool.false_eq_true, if_false, h2, Option.bind_some]
    cases o with
    | ret r => exact ⟨r, rfl, fun h => by simp only at h3; omega⟩
    | next z => exact ⟨z.1, rfl, fun _ => ⟨⟨by omega, by simpa using h3.2.2⟩, by have := h3.2.1; omega⟩⟩
theorem sz_Plan {fu : Nat} (hfu : 2097153 ≤ fu) {x : Plan} (ho : ok_Plan x) {l : Int} (h0 : 0 ≤ l) (h1 : l ≤ 1048576) : ∃ r, laws_szPlan fu x l = some r ∧ (0 ≤ r → B_Plan x ∧ r ≤ l) := by
  unfold laws_szPlan
  obtain ⟨r0, e0, b0⟩ := sz_Network hfu (x := x.Network) (ho.1) (l := l) h0 h1
  simp only [e0, Option.bind_some]
  by_cases n0 : r0 < 0
  · exact ⟨-1, by simp [n0], by omega⟩
  obtain ⟨c0, d0⟩ := b0 (by omega)
  simp only [n0, decide_false, Bool.false_eq_true, if_false]
  obtain ⟨r1, e1, b1⟩ := sz_LightS hfu (x := x.Lights) (ho.2) (l := r0) (by omega) (by omega)
  simp only [e1, Option.bind_some]
  by_cases n1 : r1 < 0
  · exact ⟨-1, by simp [n1], by omega⟩
  obtain ⟨c1, d1⟩ := b1 (by omega)
  simp only [n1, decide_false, Bool.false_eq_true, if_false]
  exact ⟨_, rfl, fun _ => ⟨⟨c0, c1⟩, by omega⟩⟩
theorem to_StringS {fu : Nat} (hfu : 2097153 ≤ fu) {x : List ByteArray} (h : B_StringS x) : laws_toStringS fu x = some x := by
  have hl := h.1
  unfold laws_toStringS
  rw [mk_len h.1, Option.bind_some, to_all0 x (laws_toStringS_L1 fu x) h.1 (fun fk o i => by rw [laws_toStringS_L1]) fu _ (by simp) (by omega)]
  rfl
theorem to_Fiber {fu : Nat} (hfu : 2097153 ≤ fu) {x : Fiber} (h : B_Fiber x) : laws_toFiber fu x = some x := by
  rfl
theorem to_FiberS {fu : Nat} (hfu : 2097153 ≤ fu) {x : List Fiber} (h : B_FiberS x) : laws_toFiberS fu x = some x := by
  have hl := h.1
  unfold laws_toFiberS
  rw [mk_len h.1, Option.bind_some, to_all1 x (laws_toFiberS_L1 fu x) (fun e => laws_toFiber fu e) h.1 (fun e he => to_Fiber hfu (h.2 e he)) (fun fk o i => by rw [laws_toFiberS_L1]) fu _ (by simp) (by omega)]
  rfl
theorem to_Network {fu : Nat} (hfu : 2097153 ≤ fu) {x : Network} (h : B_Network x) : laws_toNetwork fu x = some x := by
  simp [laws_toNetwork, to_StringS hfu (h.1), to_FiberS hfu (h.2)]
theorem to_IntS {fu : Nat} (hfu : 2097153 ≤ fu) {x : List Int} (h : B_IntS x) : laws_toIntS fu x = some x := by
  have hl := h.1
  unfold laws_toIntS
  rw [mk_len h.1, Option.bind_some, to_all0 x (laws_toIntS_L1 fu x) h.1 (fun fk o i => by rw [laws_toIntS_L1]) fu _ (by simp) (by omega)]
  rfl
theorem to_Route {fu : Nat} (hfu : 2097153 ≤ fu) {x : Route} (h : B_Route x) : laws_toRoute fu x = some x := by
  simp [laws_toRoute, to_IntS hfu (h)]
theorem to_Block {fu : Nat} (hfu : 2097153 ≤ fu) {x : Block} (h : B_Block x) : laws_toBlock fu x = some x := by
  rfl
theorem to_Light {fu : Nat} (hfu : 2097153 ≤ fu) {x : Light} (h : B_Light x) : laws_toLight fu x = some x := by
  simp [laws_toLight, to_Route hfu (h.1), to_Block hfu (h.2)]
theorem to_LightS {fu : Nat} (hfu : 2097153 ≤ fu) {x : List Light} (h : B_LightS x) : laws_toLightS fu x = some x := by
  have hl := h.1
  unfold laws_toLightS
  rw [mk_len h.1, Option.bind_some, to_all1 x (laws_toLightS_L1 fu x) (fun e => laws_toLight fu e) h.1 (fun e he => to_Light hfu (h.2 e he)) (fun fk o i => by rw [laws_toLightS_L1]) fu _ (by simp) (by omega)]
  rfl
theorem to_Plan {fu : Nat} (hfu : 2097153 ≤ fu) {x : Plan} (h : B_Plan x) : laws_toPlan fu x = some x := by
  simp [laws_toPlan, to_Network hfu (h.1), to_LightS hfu (h.2)]
theorem eq_StringS {fu : Nat} (hfu : 2097153 ≤ fu) {x : List ByteArray} (h : B_StringS x) : laws_eqStringS fu x x = some true := by
  have hl := h.1
  unfold laws_eqStringS
  rw [if_neg (by simp), eq_all1 x (laws_eqStringS_L1 fu x x) (fun e e2 => some (e.toList == e2.toList)) h.1 (fun e he => by simp) (fun fk i => by rw [laws_eqStringS_L1]; rfl) fu (by omega)]
  rfl
theorem eq_Fiber {fu : Nat} (hfu : 2097153 ≤ fu) {x : Fiber} (h : B_Fiber x) : laws_eqFiber fu x x = some true := by
  simp [laws_eqFiber]
theorem eq_FiberS {fu : Nat} (hfu : 2097153 ≤ fu) {x : List Fiber} (h : B_FiberS x) : laws_eqFiberS fu x x = some true := by
  have hl := h.1
  unfold laws_eqFiberS
  rw [if_neg (by simp), eq_all1 x (laws_eqFiberS_L1 fu x x) (fun e e2 => laws_eqFiber fu e e2) h.1 (fun e he => eq_Fiber hfu (h.2 e he)) (fun fk i => by rw [laws_eqFiberS_L1]) fu (by omega)]
  rfl
theorem eq_Network {fu : Nat} (hfu : 2097153 ≤ fu) {x : Network} (h : B_Network x) : laws_eqNetwork fu x x = some true := by
  simp [laws_eqNetwork, eq_StringS hfu (h.1), eq_FiberS hfu (h.2)]
theorem eq_IntS {fu : Nat} (hfu : 2097153 ≤ fu) {x : List Int} (h : B_IntS x) : laws_eqIntS fu x x = some true := by
  have hl := h.1
  unfold laws_eqIntS
  rw [if_neg (by simp), eq_all0 x (laws_eqIntS_L1 fu x x) h.1 (fun fk i => by rw [laws_eqIntS_L1]) fu (by omega)]
  rfl
theorem eq_Route {fu : Nat} (hfu : 2097153 ≤ fu) {x : Route} (h : B_Route x) : laws_eqRoute fu x x = some true := by
  simp [laws_eqRoute, eq_IntS hfu (h)]
theorem eq_Block {fu : Nat} (hfu : 2097153 ≤ fu) {x : Block} (h : B_Block x) : laws_eqBlock fu x x = some true := by
  simp [laws_eqBlock]
theorem eq_Light {fu : Nat} (hfu : 2097153 ≤ fu) {x : Light} (h : B_Light x) : laws_eqLight fu x x = some true := by
  simp [laws_eqLight, eq_Route hfu (h.1), eq_Block hfu (h.2)]
theorem eq_LightS {fu : Nat} (hfu : 2097153 ≤ fu) {x : List Light} (h : B_LightS x) : laws_eqLightS fu x x = some true := by
  have hl := h.1
  unfold laws_eqLightS
  rw [if_neg (by simp), eq_all1 x (laws_eqLightS_L1 fu x x) (fun e e2 => laws_eqLight fu e e2) h.1 (fun e he => eq_Light hfu (h.2 e he)) (fun fk i => by rw [laws_eqLightS_L1]) fu (by omega)]
  rfl
theorem eq_Plan {fu : Nat} (hfu : 2097153 ≤ fu) {x : Plan} (h : B_Plan x) : laws_eqPlan fu x x = some true := by
  simp [laws_eqPlan, eq_Network hfu (h.1), eq_LightS hfu (h.2)]
end AT
