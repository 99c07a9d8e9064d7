/- Literals of several elements. -/
import Derived.Test.YtokhhjepjbhhpaaGreatAtB
set_option linter.unusedSimpArgs false
set_option linter.unusedVariables false
namespace AT
open Go Go.RowKit
theorem elL {w : World} {T : Nat → Prop} {α : Type} [GoTy α] : ∀ (l : List (List Value × α)), (∀ p ∈ l, GoTy.rep w T p.1 p.2) → ∀ i x, (l.map Prod.snd)[i]? = some x → GoTy.rep w T (part' α ((l.map Prod.fst).flatten) i) x
  | [], _, i, x, h => by simp at h
  | p :: l, hp, i, x, h => by
    have h0 := hp p (by simp)
    have hl : p.1.length = GoTy.n α := GoTy.len h0
    cases i with
    | zero =>
      simp only [List.map_cons, List.getElem?_cons_zero, Option.some.injEq] at h
      subst h
      unfold part'
      rw [Nat.zero_mul, List.drop_zero, List.map_cons, List.flatten_cons, List.take_append_of_le_length (by omega), List.take_of_length_le (by omega)]
      exact h0
    | succ i =>
      simp only [List.map_cons, List.getElem?_cons_succ] at h
      have := elL l (fun q hq => hp q (by simp [hq])) i x h
      unfold part' at this ⊢
      rw [List.map_cons, List.flatten_cons, Nat.succ_mul, Nat.add_comm, ← List.drop_drop, ← hl, List.drop_left, hl]
      exact this
theorem al0 {w : World} {T : Nat → Prop} {α : Type} [GoTy α] : ∀ p ∈ ([] : List (List Value × α)), GoTy.rep w T p.1 p.2 := fun _ h => by cases h
theorem al1 {w : World} {T : Nat → Prop} {α : Type} [GoTy α] {cs : List Value} {x : α} {l : List (List Value × α)} (h : GoTy.rep w T cs x) (t : ∀ p ∈ l, GoTy.rep w T p.1 p.2) : ∀ p ∈ ((cs, x) :: l), GoTy.rep w T p.1 p.2 := by
  intro p hp
  rcases List.mem_cons.1 hp with rfl | hp
  · exact h
  · exact t p hp
end AT
