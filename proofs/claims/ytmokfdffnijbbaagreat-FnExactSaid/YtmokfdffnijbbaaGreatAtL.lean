/- Loops over lists, plainly: a loop with fuel and wrapping counters is a walk over the list. No program in sight. -/
import Derived.Test.YtmokfdffnijbbaaGreatAtR
set_option linter.unusedSimpArgs false
set_option linter.unusedVariables false
namespace AT
theorem idx_in {α : Type} {l : List α} {i : Nat} (h : i < l.length) : idx l (i : Int) = some l[i] := by rw [idx_nat, List.getElem?_eq_getElem h]
theorem idx_some {α : Type} {l : List α} {i : Int} (h0 : 0 ≤ i) (h : i < l.length) : ∃ e, idx l i = some e ∧ e ∈ l := by
  refine ⟨l[i.toNat]'(by omega), ?_, List.getElem_mem _⟩
  unfold idx
  rw [if_pos h0, List.getElem?_eq_getElem]
theorem w64_inc {n : Nat} {i : Nat} (h : i < n) (hn : (n : Int) ≤ 9223372036854775807) : w64 ((i : Int) + 1) = ((i + 1 : Nat) : Int) := by
  rw [w64_in (by omega) (by omega)]; omega
def each {α σ R : Type} (b : Int → α → σ → Option (Out σ R)) : List α → Int → σ → Option (Out σ R)
  | [], _, s => some (.next s)
  | e :: l, i, s => (b i e s).bind fun o => match o with
    | .ret r => some (.ret r)
    | .next s' => each b l (i + 1) s'
end AT
namespace AT
theorem idx_set {α : Type} {l : List α} {i : Nat} {x : α} (h : i < l.length) : idx (l.set i x) (i : Int) = some x := by
  rw [idx_nat, List.getElem?_set_self h]
theorem mk_len {α : Type} {z : α} {n : Nat} (h : n ≤ 2097152) : mk z (n : Int) = some (List.replicate n z) := by
  unfold mk; rw [if_pos (by omega)]; simp
theorem scan_loop {α R : Type} (l : List α) (G : Nat → Int → Option (Out Int R)) (p : α → Bool) (r : Nat → R) (hn : (l.length : Int) ≤ 9223372036854775807)
    (hG : ∀ fk (i : Nat) (h : i < l.length), G (fk + 1) i = if p l[i] then some (.ret (r i)) else G fk (w64 ((i : Int) + 1)))
    (hz : ∀ fk, G (fk + 1) l.length = some (.next (l.length : Int))) :
    ∀ (fk i : Nat), i ≤ l.length → l.length - i < fk → G fk i = some (if (l.drop i).any p then .ret (r (i + (l.drop i).findIdx p)) else .next (l.length : Int)) := by
  intro fk
  induction fk with
  | zero => intro i _ h; omega
  | succ fk ih =>
    intro i hi hk
    by_cases h : i < l.length
    · rw [hG fk i h, ← List.getElem_cons_drop h, List.any_cons, List.findIdx_cons]
      by_cases hp : p l[i] = true
      · simp [hp]
      · simp only [hp, Bool.false_eq_true, if_false, Bool.false_or, cond_false]
        rw [w64_inc h hn, ih (i + 1) h (by omega), show i + ((l.drop (i + 1)).findIdx p + 1) = i + 1 + (l.drop (i + 1)).findIdx p by omega]
    · obtain rfl : i = l.length := by omega
      rw [hz, List.drop_length]; rfl
theorem scan_all {α R : Type} {l : List α} {G : Nat → Int → Option (Out Int R)} (p : α → Bool) (r : Nat → R) (hn : (l.length : Int) ≤ 9223372036854775807)
    (hG : ∀ fk (i : Nat) (h : i < l.length), G (fk + 1) i = if p l[i] then some (.ret (r i)) else G fk (w64 ((i : Int) + 1)))
    (hz : ∀ fk, G (fk + 1) l.length = some (.next (l.length : Int))) (fk : Nat) (hk : l.length < fk) :
    G fk 0 = some (if l.any p then .ret (r (l.findIdx p)) else .next (l.length : Int)) := by
  have := scan_loop l G p r hn hG hz fk 0 (by omega) (by omega)
  simpa using this
def gd {α : Type} (l : List α) (i : Nat) (d : α) : α := (l[i]?).getD d
theorem idx_gd {α : Type} {l : List α} {i : Nat} (d : α) (h : i < l.length) : idx l (i : Int) = some (gd l i d) := by
  rw [idx_in h, gd, List.getElem?_eq_getElem h]; rfl
theorem gd_in {α : Type} {l : List α} {i : Nat} (d : α) (h : i < l.length) : gd l i d = l[i] := by
  rw [gd, List.getElem?_eq_getElem h]; rfl
theorem any_same {α : Type} {p q : α → Bool} : ∀ {l : List α}, (∀ i ∈ l, p i = q i) → l.any p = l.any q
  | [], _ => rfl
  | x :: l, h => by rw [List.any_cons, List.any_cons, h x (by simp), any_same fun i hi => h i (by simp [hi])]
theorem w64_dec {i : Nat} (h : 0 < i) (hn : i ≤ 2097152) : w64 ((i : Int) - 1) = ((i - 1 : Nat) : Int) := by
  rw [w64_in (by omega) (by omega)]; omega
end AT
