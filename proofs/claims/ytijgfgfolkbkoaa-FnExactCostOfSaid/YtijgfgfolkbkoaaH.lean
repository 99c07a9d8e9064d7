/- What the laws' own small functions do (copies, comparisons, sizes, marks), by program (pure.py). -/
import Derived.Test.YtijgfgfolkbkoaaOk
import Derived.Test.YtijgfgfolkbkoaaAtL
set_option linter.unusedVariables false
set_option linter.unusedSimpArgs false
namespace AT
def B_Item (x : Item) : Prop := True
def B_ItemS (x : List Item) : Prop := x.length ≤ 2097152 ∧ ∀ e ∈ x, B_Item e
def B_IntS (x : List Int) : Prop := x.length ≤ 2097152 ∧ ∀ e ∈ x, True
theorem sz_ItemS {fu : Nat} (hfu : 2097153 ≤ fu) {x : List Item} (ho : ok_ItemS x) {l : Int} (h0 : 0 ≤ l) (h1 : l ≤ 1048576) : ∃ r, laws_szItemS fu x l = some r ∧ (0 ≤ r → B_ItemS x ∧ r ≤ l) := by
  obtain ⟨hoe, hol⟩ := ho
  have e1 : w64 (l - (x.length : Int)) = l - (x.length : Int) := w64_in (by omega) (by omega)
  unfold laws_szItemS
  simp only [e1]
  by_cases hn : l - (x.length : Int) < 0
  · exact ⟨-1, by simp [hn], by omega⟩
  · refine ⟨l - x.length, by simp [hn], fun _ => ⟨⟨by omega, fun e he => trivial⟩, by omega⟩⟩
theorem to_Item {fu : Nat} (hfu : 2097153 ≤ fu) {x : Item} (h : B_Item x) : laws_toItem fu x = some x := by
  rfl
theorem to_ItemS {fu : Nat} (hfu : 2097153 ≤ fu) {x : List Item} (h : B_ItemS x) : laws_toItemS fu x = some x := by
  have hl := h.1
  unfold laws_toItemS
  rw [mk_len h.1, Option.bind_some, to_all1 x (laws_toItemS_L1 fu x) (fun e => laws_toItem fu e) h.1 (fun e he => to_Item hfu (h.2 e he)) (fun fk o i => by rw [laws_toItemS_L1]) fu _ (by simp) (by omega)]
  rfl
theorem to_IntS {fu : Nat} (hfu : 2097153 ≤ fu) {x : List Int} (h : B_IntS x) : laws_toIntS fu x = some x := by
  have hl := h.1
  unfold laws_toIntS
  rw [mk_len h.1, Option.bind_some, to_all0 x (laws_toIntS_L1 fu x) h.1 (fun fk o i => by rw [laws_toIntS_L1]) fu _ (by simp) (by omega)]
  rfl
theorem eq_Item {fu : Nat} (hfu : 2097153 ≤ fu) {x : Item} (h : B_Item x) : laws_eqItem fu x x = some true := by
  simp [laws_eqItem]
theorem eq_ItemS {fu : Nat} (hfu : 2097153 ≤ fu) {x : List Item} (h : B_ItemS x) : laws_eqItemS fu x x = some true := by
  have hl := h.1
  unfold laws_eqItemS
  rw [if_neg (by simp), eq_all1 x (laws_eqItemS_L1 fu x x) (fun e e2 => laws_eqItem fu e e2) h.1 (fun e he => eq_Item hfu (h.2 e he)) (fun fk i => by rw [laws_eqItemS_L1]) fu (by omega)]
  rfl
theorem eq_IntS {fu : Nat} (hfu : 2097153 ≤ fu) {x : List Int} (h : B_IntS x) : laws_eqIntS fu x x = some true := by
  have hl := h.1
  unfold laws_eqIntS
  rw [if_neg (by simp), eq_all0 x (laws_eqIntS_L1 fu x x) h.1 (fun fk i => by rw [laws_eqIntS_L1]) fu (by omega)]
  rfl
end AT
