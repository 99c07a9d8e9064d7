/- What the laws' own small functions do (copies, comparisons, sizes, marks), by program (pure.py). -/
import Derived.Test.YtmokfdffnijbbaaGreatOk
import Derived.Test.YtmokfdffnijbbaaGreatAtL
set_option linter.unusedVariables false
set_option linter.unusedSimpArgs false
namespace AT
def B_StringS (x : List ByteArray) : Prop := x.length ≤ 2097152 ∧ ∀ e ∈ x, e.size ≤ 2097152
def B_Fiber (x : Fiber) : Prop := True
def B_FiberS (x : List Fiber) : Prop := x.length ≤ 2097152 ∧ ∀ e ∈ x, B_Fiber e
def B_Network (x : Network) : Prop := B_StringS x.Nodes ∧ B_FiberS x.Fibers
def B_IntS (x : List Int) : Prop := x.length ≤ 2097152 ∧ ∀ e ∈ x, True
def B_Route (x : Route) : Prop := B_IntS x.Fibers
def B_Block (x : Block) : Prop := True
def B_Light (x : Light) : Prop := B_Route x.Route ∧ B_Block x.Block
def B_LightS (x : List Light) : Prop := x.length ≤ 2097152 ∧ ∀ e ∈ x, B_Light e
def B_Plan (x : Plan) : Prop := B_Network x.Network ∧ B_LightS x.Lights
theorem mt_loop {fu : Nat} : ∀ (fk : Nat) (k : Int) (m : Nat) (o : ByteArray), m < fk → 0 ≤ k → k ≤ 2305843009213693952 → k < (10 ^ m : Nat) → o.size + m ≤ 100 → ∃ z, laws_markText_L1 fu fk k o = some z ∧ z.2.size ≤ 100 := by
  intro fk
  induction fk with
  | zero => intro k m _ h; omega
  | succ fk ih =>
    intro k m o h h0 hc h1 hs
    rw [laws_markText_L1]
    by_cases hk : k > 0
    · cases m with
      | zero => simp at h1; omega
      | succ m =>
        have hq : quo k 10 = some (k / 10) := by
          unfold quo
          rw [if_neg (by decide), Int.tdiv_eq_ediv_of_nonneg h0, w64_in (by omega) (by omega)]
        have hr : rem k 10 = some (k.tmod 10) := by unfold rem; rw [if_neg (by decide)]
        obtain ⟨c, hc'⟩ : ∃ c, c = bstr [(⟨wu8 (w64 (48 + k.tmod 10))⟩ : By)] := ⟨_, rfl⟩
        have hcs : c.size = 1 := by subst hc'; rfl
        have hsc : scat c o = some (c ++ o) := by unfold scat; rw [if_pos (by omega)]
        rw [if_pos (by simpa using hk), hr]
        simp only [Option.bind_some, ← hc', hsc, hq]
        refine ih (k / 10) m (c ++ o) (by omega) (by omega) (by omega) ?_ (by rw [ByteArray.size_append]; omega)
        rw [Nat.pow_succ] at h1
        omega
    · rw [if_neg (by simpa using hk)]
      exact ⟨_, rfl, by simp only; omega⟩
theorem mt_ok {fu : Nat} (hfu : 2097153 ≤ fu) {k : Int} (h0 : 0 ≤ k) (h1 : k ≤ 2305843009213693952) : ∃ t, laws_markText fu k = some t := by
  unfold laws_markText
  by_cases hk : k ≤ 0
  · rw [if_pos (by simpa using hk)]; exact ⟨_, rfl⟩
  · rw [if_neg (by simpa using hk)]
    obtain ⟨z, h2, h3⟩ := mt_loop (fu := fu) fu k 19 ByteArray.empty (by omega) h0 h1 (by simp; omega) (by simp)
    rw [h2, Option.bind_some]
    unfold scat
    have : (⟨#[109]⟩ : ByteArray).size = 1 := rfl
    rw [if_pos (by omega)]
    exact ⟨_, rfl⟩
theorem sz_StringS {fu : Nat} (hfu : 2097153 ≤ fu) {x : List ByteArray} (ho : ok_StrS x) {l : Int} (h0 : 0 ≤ l) (h1 : l ≤ 1048576) : ∃ r, laws_szStringS fu x l = some r ∧ (0 ≤ r → B_StringS x ∧ r ≤ l) := by
  obtain ⟨hoe, hol⟩ := ho
  have e1 : w64 (l - (x.length : Int)) = l - (x.length : Int) := w64_in (by omega) (by omega)
  unfold laws_szStringS
  simp only [e1]
  by_cases hn : l - (x.length : Int) < 0
  · exact ⟨-1, by simp [hn], by omega⟩
  · obtain ⟨o, h2, h3⟩ := sz_loop x (fun e => e.size ≤ 2097152) (laws_szStringS_L1 fu x) (fun e l => some (w64 (l - (e.size : Int)))) (by omega) (fun e he l h0 h1 => ⟨_, rfl, fun h => by have := hoe e he; unfold ok_Str at this; rw [w64_in (by omega) (by omega)] at h ⊢; omega⟩) (fun fk l i => by rw [laws_szStringS_L1]; rfl) fu 0 (l - x.length) (by omega) (by omega) (by omega) (by omega)
    rw [Int.ofNat_zero] at h2
    simp only [hn, decide_false, Bool.false_eq_true, if_false, h2, Option.bind_some]
    cases o with
    | ret r => exact ⟨r, rfl, fun h => by simp only at h3; omega⟩
    | next z => exact ⟨z.1, rfl, fun _ => ⟨⟨by omega, by simpa using h3.2.2⟩, by have := h3.2.1; omega⟩⟩
theorem sz_FiberS {fu : Nat} (hfu : 2097153 ≤ fu) {x : List Fiber} (ho : ok_FiberS x) {l : Int} (h0 : 0 ≤ l) (h1 : l ≤ 1048576) : ∃ r, laws_szFiberS fu x l = some r ∧ (0 ≤ r → B_FiberS x ∧ r ≤ l) := by
  obtain ⟨hoe, hol⟩ := ho
  have e1 : w64 (l - (x.length : Int)) = l - (x.length : Int) := w64_in (by omega) (by omega)
  unfold laws_szFiberS
  simp only [e1]
  by_cases hn : l - (x.length : Int) < 0
  · exact ⟨-1, by simp [hn], by omega⟩
  · refine ⟨l - x.length, by simp [hn], fun _ => ⟨⟨by omega, fun e he => trivial⟩, by omega⟩⟩
theorem sz_Network {fu : Nat} (hfu : 2097153 ≤ fu) {x : Network} (ho : ok_Network x) {l : Int} (h0 : 0 ≤ l) (h1 : l ≤ 1048576) : ∃ r, laws_szNetwork fu x l = some r ∧ (0 ≤ r → B_Network x ∧ r ≤ l) := by
  unfold laws_szNetwork
  obtain ⟨r0, e0, b0⟩ := sz_StringS hfu (x := x.Nodes) (ho.1) (l := l) h0 h1
  simp only [e0, Option.bind_some]
  by_cases n0 : r0 < 0
  · exact ⟨-1, by simp [n0], by omega⟩
  obtain ⟨c0, d0⟩ := b0 (by omega)
  simp only [n0, decide_false, Bool.false_eq_true, if_false]
  obtain ⟨r1, e1, b1⟩ := sz_FiberS hfu (x := x.Fibers) (ho.2) (l := r0) (by omega) (by omega)
  simp only [e1, Option.bind_some]
  by_cases n1 : r1 < 0
  · exact ⟨-1, by simp [n1], by omega⟩
  obtain ⟨c1, d1⟩ := b1 (by omega)
  simp only [n1, decide_false, Bool.false_eq_true, if_false]
  exact ⟨_, rfl, fun _ => ⟨⟨c0, c1⟩, by omega⟩⟩
theorem sz_IntS {fu : Nat} (hfu : 2097153 ≤ fu) {x : List Int} (ho : ok_IntS x) {l : Int} (h0 : 0 ≤ l) (h1 : l ≤ 1048576) : ∃ r, laws_szIntS fu x l = some r ∧ (0 ≤ r → B_IntS x ∧ r ≤ l) := by
  obtain ⟨hoe, hol⟩ := ho
  have e1 : w64 (l - (x.length : Int)) = l - (x.length : Int) := w64_in (by omega) (by omega)
  unfold laws_szIntS
  simp only [e1]
  by_cases hn : l - (x.length : Int) < 0
  · exact ⟨-1, by simp [hn], by omega⟩
  · refine ⟨l - x.length, by simp [hn], fun _ => ⟨⟨by omega, fun e he => trivial⟩, by omega⟩⟩
theorem sz_Route {fu : Nat} (hfu : 2097153 ≤ fu) {x : Route} (ho : ok_Route x) {l : Int} (h0 : 0 ≤ l) (h1 : l ≤ 1048576) : ∃ r, laws_szRoute fu x l = some r ∧ (0 ≤ r → B_Route x ∧ r ≤ l) := by
  unfold laws_szRoute
  obtain ⟨r0, e0, b0⟩ := sz_IntS hfu (x := x.Fibers) (ho.2) (l := l) h0 h1
  simp only [e0, Option.bind_some]
  by_cases n0 : r0 < 0
  · exact ⟨-1, by simp [n0], by omega⟩
  obtain ⟨c0, d0⟩ := b0 (by omega)
  simp only [n0, decide_false, Bool.false_eq_true, if_false]
  exact ⟨_, rfl, fun _ => ⟨c0, by omega⟩⟩
theorem sz_Light {fu : Nat} (hfu : 2097153 ≤ fu) {x : Light} (ho : ok_Light x) {l : Int} (h0 : 0 ≤ l) (h1 : l ≤ 1048576) : ∃ r, laws_szLight fu x l = some r ∧ (0 ≤ r → B_Light x ∧ r ≤ l) := by
  unfold laws_szLight
  obtain ⟨r0, e0, b0⟩ := sz_Route hfu (x := x.Route) (ho.2.1) (l := l) h0 h1
  simp only [e0, Option.bind_some]
  by_cases n0 : r0 < 0
  · exact ⟨-1, by simp [n0], by omega⟩
  obtain ⟨c0, d0⟩ := b0 (by omega)
  simp only [n0, decide_false, Bool.false_eq_true, if_false]
  exact ⟨_, rfl, fun _ => ⟨⟨c0, trivial⟩, by omega⟩⟩
theorem sz_LightS {fu : Nat} (hfu : 2097153 ≤ fu) {x : List Light} (ho : ok_LightS x) {l : Int} (h0 : 0 ≤ l) (h1 : l ≤ 1048576) : ∃ r, laws_szLightS fu x l = some r ∧ (0 ≤ r → B_LightS x ∧ r ≤ l) := by
  obtain ⟨hoe, hol⟩ := ho
  have e1 : w64 (l - (x.length : Int)) = l - (x.length : Int) := w64_in (by omega) (by omega)
  unfold laws_szLightS
  simp only [e1]
  by_cases hn : l - (x.length : Int) < 0
  · exact ⟨-1, by simp [hn], by omega⟩
  · obtain ⟨o, h2, h3⟩ := sz_loop x B_Light (laws_szLightS_L1 fu x) (fun e l => laws_szLight fu e l) (by omega) (fun e he l h0 h1 => sz_Light hfu (hoe e he) h0 h1) (fun fk l i => by rw [laws_szLightS_L1]) fu 0 (l - x.length) (by omega) (by omega) (by omega) (by omega)
    rw [Int.ofNat_zero] at h2
    simp only [hn, decide_false, Bool.false_eq_true, if_false, h2, Option.bind_some]
    cases o with
    | ret r => exact ⟨r, rfl, fun h => by simp only at h3; omega⟩
    | next z => exact ⟨z.1, rfl, fun _ => ⟨⟨by omega, by simpa using h3.2.2⟩, by have := h3.2.1; omega⟩⟩
theorem sz_Plan {fu : Nat} (hfu : 2097153 ≤ fu) {x : Plan} (ho : ok_Plan x) {l : Int} (h0 : 0 ≤ l) (h1 : l ≤ 1048576) : ∃ r, laws_szPlan fu x l = some r ∧ (0 ≤ r → B_Plan x ∧ r ≤ l) := by
  unfold laws_szPlan
  obtain ⟨r0, e0, b0⟩ := sz_Network hfu (x := x.Network) (ho.1) (l := l) h0 h1
  simp only [e0, Option.bind_some]
  by_cases n0 : r0 < 0
  · exact ⟨-1, by simp [n0], by omega⟩
  obtain ⟨c0, d0⟩ := b0 (by omega)
  simp only [n0, decide_false, Bool.false_eq_true, if_false]
  obtain ⟨r1, e1, b1⟩ := sz_LightS hfu (x := x.Lights) (ho.2) (l := r0) (by omega) (by omega)
  simp only [e1, Option.bind_some]
  by_cases n1 : r1 < 0
  · exact ⟨-1, by simp [n1], by omega⟩
  obtain ⟨c1, d1⟩ := b1 (by omega)
  simp only [n1, decide_false, Bool.false_eq_true, if_false]
  exact ⟨_, rfl, fun _ => ⟨⟨c0, c1⟩, by omega⟩⟩
theorem to_StringS {fu : Nat} (hfu : 2097153 ≤ fu) {x : List ByteArray} (h : B_StringS x) : laws_toStringS fu x = some x := by
  have hl := h.1
  unfold laws_toStringS
  rw [mk_len h.1, Option.bind_some, to_all0 x (laws_toStringS_L1 fu x) h.1 (fun fk o i => by rw [laws_toStringS_L1]) fu _ (by simp) (by omega)]
  rfl
theorem to_Fiber {fu : Nat} (hfu : 2097153 ≤ fu) {x : Fiber} (h : B_Fiber x) : laws_toFiber fu x = some x := by
  rfl
theorem to_FiberS {fu : Nat} (hfu : 2097153 ≤ fu) {x : List Fiber} (h : B_FiberS x) : laws_toFiberS fu x = some x := by
  have hl := h.1
  unfold laws_toFiberS
  rw [mk_len h.1, Option.bind_some, to_all1 x (laws_toFiberS_L1 fu x) (fun e => laws_toFiber fu e) h.1 (fun e he => to_Fiber hfu (h.2 e he)) (fun fk o i => by rw [laws_toFiberS_L1]) fu _ (by simp) (by omega)]
  rfl
theorem to_Network {fu : Nat} (hfu : 2097153 ≤ fu) {x : Network} (h : B_Network x) : laws_toNetwork fu x = some x := by
  simp [laws_toNetwork, to_StringS hfu (h.1), to_FiberS hfu (h.2)]
theorem to_IntS {fu : Nat} (hfu : 2097153 ≤ fu) {x : List Int} (h : B_IntS x) : laws_toIntS fu x = some x := by
  have hl := h.1
  unfold laws_toIntS
  rw [mk_len h.1, Option.bind_some, to_all0 x (laws_toIntS_L1 fu x) h.1 (fun fk o i => by rw [laws_toIntS_L1]) fu _ (by simp) (by omega)]
  rfl
theorem to_Route {fu : Nat} (hfu : 2097153 ≤ fu) {x : Route} (h : B_Route x) : laws_toRoute fu x = some x := by
  simp [laws_toRoute, to_IntS hfu (h)]
theorem to_Block {fu : Nat} (hfu : 2097153 ≤ fu) {x : Block} (h : B_Block x) : laws_toBlock fu x = some x := by
  rfl
theorem to_Light {fu : Nat} (hfu : 2097153 ≤ fu) {x : Light} (h : B_Light x) : laws_toLight fu x = some x := by
  simp [laws_toLight, to_Route hfu (h.1), to_Block hfu (h.2)]
theorem to_LightS {fu : Nat} (hfu : 2097153 ≤ fu) {x : List Light} (h : B_LightS x) : laws_toLightS fu x = some x := by
  have hl := h.1
  unfold laws_toLightS
  rw [mk_len h.1, Option.bind_some, to_all1 x (laws_toLightS_L1 fu x) (fun e => laws_toLight fu e) h.1 (fun e he => to_Light hfu (h.2 e he)) (fun fk o i => by rw [laws_toLightS_L1]) fu _ (by simp) (by omega)]
  rfl
theorem to_Plan {fu : Nat} (hfu : 2097153 ≤ fu) {x : Plan} (h : B_Plan x) : laws_toPlan fu x = some x := by
  simp [laws_toPlan, to_Network hfu (h.1), to_LightS hfu (h.2)]
theorem eq_StringS {fu : Nat} (hfu : 2097153 ≤ fu) {x : List ByteArray} (h : B_StringS x) : laws_eqStringS fu x x = some true := by
  have hl := h.1
  unfold laws_eqStringS
  rw [if_neg (by simp), eq_all1 x (laws_eqStringS_L1 fu x x) (fun e e2 => some (e.toList == e2.toList)) h.1 (fun e he => by simp) (fun fk i => by rw [laws_eqStringS_L1]; rfl) fu (by omega)]
  rfl
theorem eq_Fiber {fu : Nat} (hfu : 2097153 ≤ fu) {x : Fiber} (h : B_Fiber x) : laws_eqFiber fu x x = some true := by
  simp [laws_eqFiber]
theorem eq_FiberS {fu : Nat} (hfu : 2097153 ≤ fu) {x : List Fiber} (h : B_FiberS x) : laws_eqFiberS fu x x = some true := by
  have hl := h.1
  unfold laws_eqFiberS
  rw [if_neg (by simp), eq_all1 x (laws_eqFiberS_L1 fu x x) (fun e e2 => laws_eqFiber fu e e2) h.1 (fun e he => eq_Fiber hfu (h.2 e he)) (fun fk i => by rw [laws_eqFiberS_L1]) fu (by omega)]
  rfl
theorem eq_Network {fu : Nat} (hfu : 2097153 ≤ fu) {x : Network} (h : B_Network x) : laws_eqNetwork fu x x = some true := by
  simp [laws_eqNetwork, eq_StringS hfu (h.1), eq_FiberS hfu (h.2)]
theorem eq_IntS {fu : Nat} (hfu : 2097153 ≤ fu) {x : List Int} (h : B_IntS x) : laws_eqIntS fu x x = some true := by
  have hl := h.1
  unfold laws_eqIntS
  rw [if_neg (by simp), eq_all0 x (laws_eqIntS_L1 fu x x) h.1 (fun fk i => by rw [laws_eqIntS_L1]) fu (by omega)]
  rfl
theorem eq_Route {fu : Nat} (hfu : 2097153 ≤ fu) {x : Route} (h : B_Route x) : laws_eqRoute fu x x = some true := by
  simp [laws_eqRoute, eq_IntS hfu (h)]
theorem eq_Block {fu : Nat} (hfu : 2097153 ≤ fu) {x : Block} (h : B_Block x) : laws_eqBlock fu x x = some true := by
  simp [laws_eqBlock]
theorem eq_Light {fu : Nat} (hfu : 2097153 ≤ fu) {x : Light} (h : B_Light x) : laws_eqLight fu x x = some true := by
  simp [laws_eqLight, eq_Route hfu (h.1), eq_Block hfu (h.2)]
theorem eq_LightS {fu : Nat} (hfu : 2097153 ≤ fu) {x : List Light} (h : B_LightS x) : laws_eqLightS fu x x = some true := by
  have hl := h.1
  unfold laws_eqLightS
  rw [if_neg (by simp), eq_all1 x (laws_eqLightS_L1 fu x x) (fun e e2 => laws_eqLight fu e e2) h.1 (fun e he => eq_Light hfu (h.2 e he)) (fun fk i => by rw [laws_eqLightS_L1]) fu (by omega)]
  rfl
theorem eq_Plan {fu : Nat} (hfu : 2097153 ≤ fu) {x : Plan} (h : B_Plan x) : laws_eqPlan fu x x = some true := by
  simp [laws_eqPlan, eq_Network hfu (h.1), eq_LightS hfu (h.2)]
theorem mk_StringS {fu : Nat} (hfu : 2097153 ≤ fu) {x : List ByteArray} (h : B_StringS x) {k : Int} (h0 : 0 ≤ k) (h1 : k ≤ 1152921504606846976) : ∃ k' x', laws_markStringS fu x k = some (k', x') ∧ laws_heldStringS fu x' k = some k' ∧ k ≤ k' ∧ k' ≤ k + 2097152 := by
  obtain ⟨k', a', g1, g2, -, g4, g5, g6⟩ := mark_list (fun e => e.size ≤ 2097152) 1 2305843009213693888 (by omega) (by omega) (laws_markStringS_L1 fu) (fun a => laws_heldStringS_L1 fu a)
    (fun (e : ByteArray) (k : Int) => (laws_markText fu k).bind fun y1 => some ((w64 (k + 1)), y1))
    (fun (e : ByteArray) (k : Int) => (laws_markText fu k).bind fun z1 => if !(e.toList == z1.toList) then some (.ret (-1)) else some (.next (w64 (k + 1))))
    (fun e k hb h0 h1 => by
      obtain ⟨t1, mt1⟩ := mt_ok hfu (k := k) (by omega) (by omega)
      have w0 : w64 (k + 1) = k + 1 := w64_in (by omega) (by omega)
      refine ⟨(k + 1), t1, ?_, ?_, by omega, by omega⟩ <;> simp [mt1, w0])
    (fun fk a i k hi => by
      rw [laws_markStringS_L1, if_pos (by simpa using hi)]
      simp [idx_in hi, idx_set hi, Option.bind_assoc])
    (fun fk a k => by rw [laws_markStringS_L1, if_neg (by simp)])
    (fun a fk i k hi => by
      rw [laws_heldStringS_L1, if_pos (by simpa using hi)]
      simp only [idx_in hi, Option.bind_some]
      repeat (first | rfl | split | (simp only [Option.bind_assoc, Option.bind_some]; congr 1; funext z)))
    (fun a fk k => by rw [laws_heldStringS_L1, if_neg (by simp)])
    x.length 0 x k h.1 (by omega) (by omega) (fun e he => h.2 e (by simpa using he)) h0 (by have := h.1; omega)
  have hl := h.1
  refine ⟨k', a', ?_, ?_, g5, by omega⟩
  · unfold laws_markStringS; rw [show (0 : Int) = ((0 : Nat) : Int) from rfl, g1 fu (by omega)]; rfl
  · unfold laws_heldStringS; rw [show (0 : Int) = ((0 : Nat) : Int) from rfl, g4 fu (by omega)]; rfl
theorem mk_FiberS {fu : Nat} (hfu : 2097153 ≤ fu) {x : List Fiber} (h : B_FiberS x) {k : Int} (h0 : 0 ≤ k) (h1 : k ≤ 1152921504606846976) : ∃ k' x', laws_markFiberS fu x k = some (k', x') ∧ laws_heldFiberS fu x' k = some k' ∧ k ≤ k' ∧ k' ≤ k + 8388608 := by
  obtain ⟨k', a', g1, g2, -, g4, g5, g6⟩ := mark_list (fun e => B_Fiber e) 4 2305843009213693888 (by omega) (by omega) (laws_markFiberS_L1 fu) (fun a => laws_heldFiberS_L1 fu a)
    (fun (e : Fiber) (k : Int) => some ((w64 ((w64 ((w64 ((w64 (k + 1)) + 1)) + 1)) + 1)), ({ A := k, B := (w64 (k + 1)), Length := (w64 ((w64 (k + 1)) + 1)), Risk := (w64 ((w64 ((w64 (k + 1)) + 1)) + 1)) } : Fiber)))
    (fun (e : Fiber) (k : Int) => if e.A != k then some (.ret (-1)) else if e.B != (w64 (k + 1)) then some (.ret (-1)) else if e.Length != (w64 ((w64 (k + 1)) + 1)) then some (.ret (-1)) else if e.Risk != (w64 ((w64 ((w64 (k + 1)) + 1)) + 1)) then some (.ret (-1)) else some (.next (w64 ((w64 ((w64 ((w64 (k + 1)) + 1)) + 1)) + 1))))
    (fun e k hb h0 h1 => by
      have w0 : w64 (k + 1) = k + 1 := w64_in (by omega) (by omega)
      have w1 : w64 ((k + 1) + 1) = (k + 1) + 1 := w64_in (by omega) (by omega)
      have w2 : w64 (((k + 1) + 1) + 1) = ((k + 1) + 1) + 1 := w64_in (by omega) (by omega)
      have w3 : w64 ((((k + 1) + 1) + 1) + 1) = (((k + 1) + 1) + 1) + 1 := w64_in (by omega) (by omega)
      refine ⟨((((k + 1) + 1) + 1) + 1), ({ A := k, B := (k + 1), Length := ((k + 1) + 1), Risk := (((k + 1) + 1) + 1) } : Fiber), ?_, ?_, by omega, by omega⟩ <;> simp [w0, w1, w2, w3])
    (fun fk a i k hi => by
      rw [laws_markFiberS_L1, if_pos (by simpa using hi)]
      simp [idx_in hi, idx_set hi, Option.bind_assoc])
    (fun fk a k => by rw [laws_markFiberS_L1, if_neg (by simp)])
    (fun a fk i k hi => by
      rw [laws_heldFiberS_L1, if_pos (by simpa using hi)]
      simp only [idx_in hi, Option.bind_some]
      repeat (first | rfl | split | (simp only [Option.bind_assoc, Option.bind_some]; congr 1; funext z)))
    (fun a fk k => by rw [laws_heldFiberS_L1, if_neg (by simp)])
    x.length 0 x k h.1 (by omega) (by omega) (fun e he => h.2 e (by simpa using he)) h0 (by have := h.1; omega)
  have hl := h.1
  refine ⟨k', a', ?_, ?_, g5, by omega⟩
  · unfold laws_markFiberS; rw [show (0 : Int) = ((0 : Nat) : Int) from rfl, g1 fu (by omega)]; rfl
  · unfold laws_heldFiberS; rw [show (0 : Int) = ((0 : Nat) : Int) from rfl, g4 fu (by omega)]; rfl
theorem mk_IntS {fu : Nat} (hfu : 2097153 ≤ fu) {x : List Int} (h : B_IntS x) {k : Int} (h0 : 0 ≤ k) (h1 : k ≤ 1152921504606846976) : ∃ k' x', laws_markIntS fu x k = some (k', x') ∧ laws_heldIntS fu x' k = some k' ∧ k ≤ k' ∧ k' ≤ k + 2097152 := by
  obtain ⟨k', a', g1, g2, -, g4, g5, g6⟩ := mark_list (fun e => True) 1 2305843009213693888 (by omega) (by omega) (laws_markIntS_L1 fu) (fun a => laws_heldIntS_L1 fu a)
    (fun (e : Int) (k : Int) => some ((w64 (k + 1)), k))
    (fun (e : Int) (k : Int) => if e != k then some (.ret (-1)) else some (.next (w64 (k + 1))))
    (fun e k hb h0 h1 => by
      have w0 : w64 (k + 1) = k + 1 := w64_in (by omega) (by omega)
      refine ⟨(k + 1), k, ?_, ?_, by omega, by omega⟩ <;> simp [w0])
    (fun fk a i k hi => by
      rw [laws_markIntS_L1, if_pos (by simpa using hi)]
      simp [idx_in hi, idx_set hi, Option.bind_assoc])
    (fun fk a k => by rw [laws_markIntS_L1, if_neg (by simp)])
    (fun a fk i k hi => by
      rw [laws_heldIntS_L1, if_pos (by simpa using hi)]
      simp only [idx_in hi, Option.bind_some]
      repeat (first | rfl | split | (simp only [Option.bind_assoc, Option.bind_some]; congr 1; funext z)))
    (fun a fk k => by rw [laws_heldIntS_L1, if_neg (by simp)])
    x.length 0 x k h.1 (by omega) (by omega) (fun e he => h.2 e (by simpa using he)) h0 (by have := h.1; omega)
  have hl := h.1
  refine ⟨k', a', ?_, ?_, g5, by omega⟩
  · unfold laws_markIntS; rw [show (0 : Int) = ((0 : Nat) : Int) from rfl, g1 fu (by omega)]; rfl
  · unfold laws_heldIntS; rw [show (0 : Int) = ((0 : Nat) : Int) from rfl, g4 fu (by omega)]; rfl
theorem mk_LightS {fu : Nat} (hfu : 2097153 ≤ fu) {x : List Light} (h : B_LightS x) {k : Int} (h0 : 0 ≤ k) (h1 : k ≤ 576460752303423488) : ∃ k' x', laws_markLightS fu x k = some (k', x') ∧ laws_heldLightS fu x' k = some k' ∧ k ≤ k' ∧ k' ≤ k + 4398054899712 := by
  obtain ⟨k', a', g1, g2, -, g4, g5, g6⟩ := mark_list (fun e => B_Light e) 2097156 1152921504606846912 (by omega) (by omega) (laws_markLightS_L1 fu) (fun a => laws_heldLightS_L1 fu a)
    (fun (e : Light) (k : Int) => (laws_markIntS fu e.Route.Fibers (w64 ((w64 (k + 1)) + 1))).bind fun y1 => some ((w64 ((w64 (y1.1 + 1)) + 1)), ({ Id := k, Route := ({ Start := (w64 (k + 1)), Fibers := y1.2 } : Route), Block := ({ First := y1.1, Count := (w64 (y1.1 + 1)) } : Block) } : Light)))
    (fun (e : Light) (k : Int) => if e.Id != k then some (.ret (-1)) else if e.Route.Start != (w64 (k + 1)) then some (.ret (-1)) else (laws_heldIntS fu e.Route.Fibers (w64 ((w64 (k + 1)) + 1))).bind fun z1 => if decide (z1 < 0) then some (.ret (-1)) else if e.Block.First != z1 then some (.ret (-1)) else if e.Block.Count != (w64 (z1 + 1)) then some (.ret (-1)) else some (.next (w64 ((w64 (z1 + 1)) + 1))))
    (fun e k hb h0 h1 => by
      have w0 : w64 (k + 1) = k + 1 := w64_in (by omega) (by omega)
      have w1 : w64 ((k + 1) + 1) = (k + 1) + 1 := w64_in (by omega) (by omega)
      obtain ⟨q1, x1, m1, g1, l1, u1⟩ := mk_IntS hfu (hb.1) (k := ((k + 1) + 1)) (by omega) (by omega)
      have n1 : ¬ q1 < 0 := by omega
      have w2 : w64 (q1 + 1) = q1 + 1 := w64_in (by omega) (by omega)
      have w3 : w64 ((q1 + 1) + 1) = (q1 + 1) + 1 := w64_in (by omega) (by omega)
      refine ⟨((q1 + 1) + 1), ({ Id := k, Route := ({ Start := (k + 1), Fibers := x1 } : Route), Block := ({ First := q1, Count := (q1 + 1) } : Block) } : Light), ?_, ?_, by omega, by omega⟩ <;> simp [w0, w1, m1, n1, g1, w2, w3])
    (fun fk a i k hi => by
      rw [laws_markLightS_L1, if_pos (by simpa using hi)]
      simp [idx_in hi, idx_set hi, Option.bind_assoc])
    (fun fk a k => by rw [laws_markLightS_L1, if_neg (by simp)])
    (fun a fk i k hi => by
      rw [laws_heldLightS_L1, if_pos (by simpa using hi)]
      simp only [idx_in hi, Option.bind_some]
      repeat (first | rfl | split | (simp only [Option.bind_assoc, Option.bind_some]; congr 1; funext z)))
    (fun a fk k => by rw [laws_heldLightS_L1, if_neg (by simp)])
    x.length 0 x k h.1 (by omega) (by omega) (fun e he => h.2 e (by simpa using he)) h0 (by have := h.1; omega)
  have hl := h.1
  refine ⟨k', a', ?_, ?_, g5, by omega⟩
  · unfold laws_markLightS; rw [show (0 : Int) = ((0 : Nat) : Int) from rfl, g1 fu (by omega)]; rfl
  · unfold laws_heldLightS; rw [show (0 : Int) = ((0 : Nat) : Int) from rfl, g4 fu (by omega)]; rfl
theorem mk_Plan {fu : Nat} (hfu : 2097153 ≤ fu) {x : Plan} (h : B_Plan x) {k : Int} (h0 : 0 ≤ k) (h1 : k ≤ 288230376151711744) : ∃ k', ∃ (x0 : List ByteArray) (x1 : List Fiber) (x2 : List Light), laws_markPlan fu x k = some (k', ({ Network := ({ Nodes := x0, Fibers := x1 } : Network), Lights := x2 } : Plan)) ∧ laws_heldPlan fu ({ Network := ({ Nodes := x0, Fibers := x1 } : Network), Lights := x2 } : Plan) k = some k' ∧ k ≤ k' ∧ k' ≤ k + 4398065385472 := by
  obtain ⟨q0, x0, m0, g0, l0, u0⟩ := mk_StringS hfu (h.1.1) (k := k) (by omega) (by omega)
  have n0 : ¬ q0 < 0 := by omega
  obtain ⟨q1, x1, m1, g1, l1, u1⟩ := mk_FiberS hfu (h.1.2) (k := q0) (by omega) (by omega)
  have n1 : ¬ q1 < 0 := by omega
  obtain ⟨q2, x2, m2, g2, l2, u2⟩ := mk_LightS hfu (h.2) (k := q1) (by omega) (by omega)
  have n2 : ¬ q2 < 0 := by omega
  refine ⟨q2, x0, x1, x2, ?_, ?_, by omega, by omega⟩ <;> simp [laws_markPlan, laws_heldPlan, laws_markNetwork, laws_heldNetwork, m0, n0, g0, m1, n1, g1, m2, n2, g2]
end AT
