/- What the laws' own small functions do (copies, comparisons, sizes, marks), by program (pure.py). -/
import Derived.Test.YtijgfgfolkbkoaaOk
import Derived.Test.YtijgfgfolkbkoaaAtL
set_option linter.unusedVariables false
set_option linter.unusedSimpArgs false
namespace AT
def B_Item (x : Item) : Prop := True
def B_ItemS (x : List Item) : Prop := x.length ≤ 2097152 ∧ ∀ e ∈ x, B_Item e
theorem sz_ItemS {fu : Nat} (hfu : 2097153 ≤ fu) {x : List Item} (ho : ok_ItemS x) {l : Int} (h0 : 0 ≤ l) (h1 : l ≤ 1048576) : ∃ r, laws_szItemS fu x l = some r ∧ (0 ≤ r → B_ItemS x ∧ r ≤ l) := by
  obtain ⟨hoe, hol⟩ := ho
  have e1 : w64 (l - (x.length : Int)) = l - (x.length : Int) := w64_in (by omega) (by omega)
  unfold laws_szItemS
  simp only [e1]
  by_cases hn : l - (x.length : Int) < 0
  · exact ⟨-1, by simp [hn], by omega⟩
  · refine ⟨l - x.length, by simp [hn], fun _ => ⟨⟨by omega, fun e he => trivial⟩, by omega⟩⟩
theorem to_Item {fu : Nat} (hfu : 2097153 ≤ fu) {x : Item} (h : B_Item x) : laws_toItem fu x = some x := by
  rfl
theorem to_ItemS {fu : Nat} (hfu : 2097153 ≤ fu) {x : List Item} (h : B_ItemS x) : laws_toItemS fu x = some x := by
  have hl := h.1
  unfold laws_toItemS
  rw [mk_len h.1, Option.bind_some, to_all1 x (laws_toItemS_L1 fu x) (fun e => laws_toItem fu e) h.1 (fun e he => to_Item hfu (h.2 e he)) (fun fk o i => by rw [laws_toItemS_L1]) fu _ (by simp) (by omega)]
  rfl
theorem eq_Item {fu : Nat} (hfu : 2097153 ≤ fu) {x : Item} (h : B_Item x) : laws_eqItem fu x x = some true := by
  simp [laws_eqItem]
theorem eq_ItemS {fu : Nat} (hfu : 2097153 ≤ fu) {x : List Item} (h : B_ItemS x) : laws_eqItemS fu x x = some true := by
  have hl := h.1
  unfold laws_eqItemS
  rw [if_neg (by simp), eq_all1 x (laws_eqItemS_L1 fu x x) (fun e e2 => laws_eqItem fu e e2) h.1 (fun e he => eq_Item hfu (h.2 e he)) (fun fk i => by rw [laws_eqItemS_L1]) fu (by omega)]
  rfl
theorem mo_ItemS {fu : Nat} (hfu : 2097153 ≤ fu) {x : List Item} (h : B_ItemS x) {k : Int} (h0 : 0 ≤ k) (h1 : k ≤ 1152921504606846976) : ∃ k' x', laws_markItemS fu x k = some (k', x') ∧ k ≤ k' ∧ k' ≤ k + 6291456 := by
  obtain ⟨k', a', g1, g5, g6⟩ := mark_only (fun e => B_Item e) 3 2305843009213693888 (by omega) (by omega) (laws_markItemS_L1 fu)
    (fun (e : Item) (k : Int) => some ((w64 ((w64 ((w64 (k + 1)) + 1)) + 1)), ({ Kind := k, Node := (w64 (k + 1)), Count := (w64 ((w64 (k + 1)) + 1)) } : Item)))
    (fun e k hb h0 h1 => by
      have w0 : w64 (k + 1) = k + 1 := w64_in (by omega) (by omega)
      have w1 : w64 ((k + 1) + 1) = (k + 1) + 1 := w64_in (by omega) (by omega)
      have w2 : w64 (((k + 1) + 1) + 1) = ((k + 1) + 1) + 1 := w64_in (by omega) (by omega)
      refine ⟨(((k + 1) + 1) + 1), ({ Kind := k, Node := (k + 1), Count := ((k + 1) + 1) } : Item), ?_, by omega, by omega⟩ <;> simp [w0, w1, w2])
    (fun fk a i k hi => by
      rw [laws_markItemS_L1, if_pos (by simpa using hi)]
      simp [idx_in hi, idx_set hi, Option.bind_assoc])
    (fun fk a k => by rw [laws_markItemS_L1, if_neg (by simp)])
    x.length 0 x k h.1 (by omega) (by omega) (fun e he => h.2 e (by simpa using he)) h0 (by have := h.1; omega)
  have hl := h.1
  refine ⟨k', a', ?_, g5, by omega⟩
  · unfold laws_markItemS; rw [show (0 : Int) = ((0 : Nat) : Int) from rfl, g1 fu (by omega)]; rfl
theorem mk_ItemS {fu : Nat} (hfu : 2097153 ≤ fu) {x : List Item} (h : B_ItemS x) {k : Int} (h0 : 0 ≤ k) (h1 : k ≤ 1152921504606846976) : ∃ k' x', laws_markItemS fu x k = some (k', x') ∧ laws_heldItemS fu x' k = some k' ∧ k ≤ k' ∧ k' ≤ k + 6291456 := by
  obtain ⟨k', a', g1, g2, -, g4, g5, g6⟩ := mark_list (fun e => B_Item e) 3 2305843009213693888 (by omega) (by omega) (laws_markItemS_L1 fu) (fun a => laws_heldItemS_L1 fu a)
    (fun (e : Item) (k : Int) => some ((w64 ((w64 ((w64 (k + 1)) + 1)) + 1)), ({ Kind := k, Node := (w64 (k + 1)), Count := (w64 ((w64 (k + 1)) + 1)) } : Item)))
    (fun (e : Item) (k : Int) => if e.Kind != k then some (.ret (-1)) else if e.Node != (w64 (k + 1)) then some (.ret (-1)) else if e.Count != (w64 ((w64 (k + 1)) + 1)) then some (.ret (-1)) else some (.next (w64 ((w64 ((w64 (k + 1)) + 1)) + 1))))
    (fun e k hb h0 h1 => by
      have w0 : w64 (k + 1) = k + 1 := w64_in (by omega) (by omega)
      have w1 : w64 ((k + 1) + 1) = (k + 1) + 1 := w64_in (by omega) (by omega)
      have w2 : w64 (((k + 1) + 1) + 1) = ((k + 1) + 1) + 1 := w64_in (by omega) (by omega)
      refine ⟨(((k + 1) + 1) + 1), ({ Kind := k, Node := (k + 1), Count := ((k + 1) + 1) } : Item), ?_, ?_, by omega, by omega⟩ <;> simp [w0, w1, w2])
    (fun fk a i k hi => by
      rw [laws_markItemS_L1, if_pos (by simpa using hi)]
      simp [idx_in hi, idx_set hi, Option.bind_assoc])
    (fun fk a k => by rw [laws_markItemS_L1, if_neg (by simp)])
    (fun a fk i k hi => by
      rw [laws_heldItemS_L1, if_pos (by simpa using hi)]
      simp only [idx_in hi, Option.bind_some]
      repeat (first | rfl | split | (simp only [Option.bind_assoc, Option.bind_some]; congr 1; funext z)))
    (fun a fk k => by rw [laws_heldItemS_L1, if_neg (by simp)])
    x.length 0 x k h.1 (by omega) (by omega) (fun e he => h.2 e (by simpa using he)) h0 (by have := h.1; omega)
  have hl := h.1
  refine ⟨k', a', ?_, ?_, g5, by omega⟩
  · unfold laws_markItemS; rw [show (0 : Int) = ((0 : Nat) : Int) from rfl, g1 fu (by omega)]; rfl
  · unfold laws_heldItemS; rw [show (0 : Int) = ((0 : Nat) : Int) from rfl, g4 fu (by omega)]; rfl
end AT
