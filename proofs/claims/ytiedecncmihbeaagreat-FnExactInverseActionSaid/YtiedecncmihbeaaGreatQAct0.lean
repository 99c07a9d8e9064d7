/- Actions on plans, plainly: where a light is put, what is taken out, what is moved. -/
import Derived.Test.YtiedecncmihbeaaGreatQPlan2
import Derived.Test.YtiedecncmihbeaaGreatQFind
set_option linter.unusedSimpArgs false
set_option linter.unusedVariables false
namespace AT
/-- The place of the first that is so: a loop without a return. -/
theorem find_loop {α : Type} {l : List α} {G : Nat → Int → Option Int} (p : α → Bool) (hn : (l.length : Int) ≤ 9223372036854775807)
    (hG : ∀ fk (i : Nat) (h : i < l.length), G (fk + 1) i = if p l[i] = true then some (i : Int) else G fk (w64 ((i : Int) + 1)))
    (hz : ∀ fk, G (fk + 1) l.length = some (l.length : Int)) : ∀ (fk i : Nat), l.length - i < fk → i ≤ l.length → G fk i = some ((i + (l.drop i).findIdx p : Nat) : Int) := by
  intro fk
  induction fk with
  | zero => intro i h; omega
  | succ fk ih =>
    intro i hk hi
    by_cases h : i < l.length
    · rw [hG fk i h, ← List.getElem_cons_drop h, List.findIdx_cons]
      by_cases hp : p l[i] = true
      · simp [hp]
      · simp only [hp, Bool.false_eq_true, if_false, cond_false]
        rw [w64_inc h hn, ih (i + 1) (by omega) h]
        congr 2
        omega
    · obtain rfl : i = l.length := by omega
      rw [hz, List.drop_length]; rfl
theorem find_all {α : Type} {l : List α} {G : Nat → Int → Option Int} (p : α → Bool) (hn : (l.length : Int) ≤ 9223372036854775807)
    (hG : ∀ fk (i : Nat) (h : i < l.length), G (fk + 1) i = if p l[i] = true then some (i : Int) else G fk (w64 ((i : Int) + 1)))
    (hz : ∀ fk, G (fk + 1) l.length = some (l.length : Int)) (fk : Nat) (hk : l.length < fk) : G fk 0 = some ((l.findIdx p : Nat) : Int) := by
  have := find_loop p hn hG hz fk 0 (by omega) (by omega)
  simpa using this
/-- Where a light with this id is put. -/
def insAt (L : List Light) (id : Int) : Nat := L.findIdx fun y => !decide (y.Id < id)
def putL (L : List Light) (x : Light) : List Light := L.take (insAt L x.Id) ++ x :: L.drop (insAt L x.Id)
theorem insAt_le (L : List Light) (id : Int) : insAt L id ≤ L.length := List.findIdx_le_length
theorem putL_len (L : List Light) (x : Light) : (putL L x).length = L.length + 1 := by
  have := insAt_le L x.Id
  unfold putL
  rw [List.length_append, List.length_cons, List.length_take, List.length_drop]
  omega
theorem putL_mem {L : List Light} {x y : Light} : y ∈ putL L x ↔ y = x ∨ y ∈ L := by
  unfold putL
  rw [List.mem_append, List.mem_cons]
  constructor
  · rintro (h | h | h)
    · exact .inr (List.mem_of_mem_take h)
    · exact .inl h
    · exact .inr (List.mem_of_mem_drop h)
  · rintro (h | h)
    · exact .inr (.inl h)
    · rw [← List.take_append_drop (insAt L x.Id) L, List.mem_append] at h
      rcases h with h | h
      · exact .inl h
      · exact .inr (.inr h)
theorem findIdx_at {α : Type} {p : α → Bool} {l : List α} {i : Nat} (hi : i ≤ l.length) (h : ∀ j (hj : j < l.length), j < i → p l[j] = false) (h' : ∀ hj : i < l.length, p l[i] = true) : l.findIdx p = i := by
  rcases Nat.lt_or_ge i l.length with hj | hj
  · rw [List.findIdx_eq hj]
    exact ⟨h' hj, fun j hji => h j (by omega) hji⟩
  · obtain rfl : i = l.length := by omega
    rw [List.findIdx_eq_length]
    intro x hx
    obtain ⟨j, hj', rfl⟩ := List.mem_iff_getElem.1 hx
    exact h j hj' hj'
theorem atId_gd {L : List Light} {id : Int} (h : (L.any fun y => y.Id == id) = true) : (gd L (atId L id) l0).Id = id := by
  have hl := atId_lt h
  rw [gd_in l0 hl]
  have := List.findIdx_getElem (w := hl)
  rw [beq_iff_eq] at this
  exact this
/-- What is taken out by its id and put in again with the same one is where it was. -/
theorem put_erase {L : List Light} (hid : ∀ a b, a < b → b < L.length → (gd L a l0).Id < (gd L b l0).Id) {i : Nat} (hi : i < L.length) {x : Light} (hx : x.Id = (gd L i l0).Id) : putL (L.eraseIdx i) x = L.set i x := by
  have hlen : (L.eraseIdx i).length = L.length - 1 := by rw [List.length_eraseIdx]; simp [hi]
  have hat : insAt (L.eraseIdx i) x.Id = i := by
    unfold insAt
    refine findIdx_at (by omega) (fun j hj hji => ?_) (fun hj => ?_)
    · rw [List.getElem_eraseIdx_of_lt hj hji]
      have := hid j i hji hi
      rw [gd_in l0 (by omega)] at this
      simp only [Bool.not_eq_false', decide_eq_true_eq]
      omega
    · rw [List.getElem_eraseIdx_of_ge hj (by omega)]
      have := hid i (i + 1) (by omega) (by omega)
      rw [gd_in l0 (show i + 1 < L.length by omega)] at this
      simp only [Bool.not_eq_true', decide_eq_false_iff_not]
      omega
  unfold putL
  rw [hat, List.set_eq_take_append_cons_drop, if_pos hi]
  have e1 : (L.eraseIdx i).take i = L.take i := by rw [List.eraseIdx_eq_take_drop_succ, List.take_append_of_le_length (by rw [List.length_take]; omega), List.take_take, Nat.min_self]
  have e2 : (L.eraseIdx i).drop i = L.drop (i + 1) := by
    rw [List.eraseIdx_eq_take_drop_succ, List.drop_append_of_le_length (by rw [List.length_take]; omega), List.drop_take, Nat.sub_self]
    simp
  rw [e1, e2]
end AT

