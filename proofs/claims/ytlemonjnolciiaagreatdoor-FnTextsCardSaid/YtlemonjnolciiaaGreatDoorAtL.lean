/- Loops over lists, plainly: a loop with fuel and wrapping counters is a walk over the list. No program in sight. -/
import Derived.Test.YtlemonjnolciiaaGreatDoorAtR
set_option linter.unusedSimpArgs false
set_option linter.unusedVariables false
namespace AT
theorem idx_in {α : Type} {l : List α} {i : Nat} (h : i < l.length) : idx l (i : Int) = some l[i] := by rw [idx_nat, List.getElem?_eq_getElem h]
theorem idx_some {α : Type} {l : List α} {i : Int} (h0 : 0 ≤ i) (h : i < l.length) : ∃ e, idx l i = some e ∧ e ∈ l := by
  refine ⟨l[i.toNat]'(by omega), ?_, List.getElem_mem _⟩
  unfold idx
  rw [if_pos h0, List.getElem?_eq_getElem]
theorem w64_inc {n : Nat} {i : Nat} (h : i < n) (hn : (n : Int) ≤ 9223372036854775807) : w64 ((i : Int) + 1) = ((i + 1 : Nat) : Int) := by
  rw [w64_in (by omega) (by omega)]; omega
def each {α σ R : Type} (b : Int → α → σ → Option (Out σ R)) : List α → Int → σ → Option (Out σ R)
  | [], _, s => some (.next s)
  | e :: l, i, s => (b i e s).bind fun o => match o with
    | .ret r => some (.ret r)
    | .next s' => each b l (i + 1) s'
end AT
namespace AT
theorem eq_loop1 {α : Type} (a : List α) (G : Nat → Int → Option (Out Int Bool)) (p : α → α → Option Bool) (hn : a.length ≤ 2097152) (hp : ∀ e ∈ a, p e e = some true)
    (hG : ∀ fk i, G (fk + 1) i = if decide (i < (a.length : Int)) then (idx a i).bind fun e => (idx a i).bind fun e2 => (p e e2).bind fun y => if !y then some (.ret false) else G fk (w64 (i + 1)) else some (.next i)) :
    ∀ (fk i : Nat), i ≤ a.length → a.length - i < fk → G fk i = some (.next (a.length : Int)) := by
  intro fk
  induction fk with
  | zero => intro i _ h; omega
  | succ fk ih =>
    intro i hi hk
    rw [hG]
    by_cases h : i < a.length
    · rw [if_pos (by simpa using h), idx_in h, Option.bind_some, Option.bind_some, hp _ (List.getElem_mem h), Option.bind_some, w64_inc h (by omega), ih (i + 1) h (by omega)]
      rfl
    · obtain rfl : i = a.length := by omega
      rw [if_neg (by simp)]
theorem eq_loop0 {α : Type} [BEq α] [ReflBEq α] (a : List α) (G : Nat → Int → Option (Out Int Bool)) (hn : a.length ≤ 2097152)
    (hG : ∀ fk i, G (fk + 1) i = if decide (i < (a.length : Int)) then (idx a i).bind fun e => (idx a i).bind fun e2 => if e != e2 then some (.ret false) else G fk (w64 (i + 1)) else some (.next i)) :
    ∀ (fk i : Nat), i ≤ a.length → a.length - i < fk → G fk i = some (.next (a.length : Int)) :=
  eq_loop1 a G (fun e e2 => some (e == e2)) hn (fun e _ => by simp) (fun fk i => by rw [hG]; rfl)
theorem scan_loop {α R : Type} (l : List α) (G : Nat → Int → Option (Out Int R)) (p : α → Bool) (r : Nat → R) (hn : (l.length : Int) ≤ 9223372036854775807)
    (hG : ∀ fk (i : Nat) (h : i < l.length), G (fk + 1) i = if p l[i] then some (.ret (r i)) else G fk (w64 ((i : Int) + 1)))
    (hz : ∀ fk, G (fk + 1) l.length = some (.next (l.length : Int))) :
    ∀ (fk i : Nat), i ≤ l.length → l.length - i < fk → G fk i = some (if (l.drop i).any p then .ret (r (i + (l.drop i).findIdx p)) else .next (l.length : Int)) := by
  intro fk
  induction fk with
  | zero => intro i _ h; omega
  | succ fk ih =>
    intro i hi hk
    by_cases h : i < l.length
    · rw [hG fk i h, ← List.getElem_cons_drop h, List.any_cons, List.findIdx_cons]
      by_cases hp : p l[i] = true
      · simp [hp]
      · simp only [hp, Bool.false_eq_true, if_false, Bool.false_or, cond_false]
        rw [w64_inc h hn, ih (i + 1) h (by omega), show i + ((l.drop (i + 1)).findIdx p + 1) = i + 1 + (l.drop (i + 1)).findIdx p by omega]
    · obtain rfl : i = l.length := by omega
      rw [hz, List.drop_length]; rfl
theorem eq_all1 {α : Type} (a : List α) (G : Nat → Int → Option (Out Int Bool)) (p : α → α → Option Bool) (hn : a.length ≤ 2097152) (hp : ∀ e ∈ a, p e e = some true)
    (hG : ∀ fk i, G (fk + 1) i = if decide (i < (a.length : Int)) then (idx a i).bind fun e => (idx a i).bind fun e2 => (p e e2).bind fun y => if !y then some (.ret false) else G fk (w64 (i + 1)) else some (.next i))
    (fk : Nat) (hk : a.length < fk) : G fk 0 = some (.next (a.length : Int)) := by
  have := eq_loop1 a G p hn hp hG fk 0 (by omega) (by omega)
  simpa using this
theorem eq_all0 {α : Type} [BEq α] [ReflBEq α] (a : List α) (G : Nat → Int → Option (Out Int Bool)) (hn : a.length ≤ 2097152)
    (hG : ∀ fk i, G (fk + 1) i = if decide (i < (a.length : Int)) then (idx a i).bind fun e => (idx a i).bind fun e2 => if e != e2 then some (.ret false) else G fk (w64 (i + 1)) else some (.next i))
    (fk : Nat) (hk : a.length < fk) : G fk 0 = some (.next (a.length : Int)) := by
  have := eq_loop0 a G hn hG fk 0 (by omega) (by omega)
  simpa using this
theorem scan_all {α R : Type} {l : List α} {G : Nat → Int → Option (Out Int R)} (p : α → Bool) (r : Nat → R) (hn : (l.length : Int) ≤ 9223372036854775807)
    (hG : ∀ fk (i : Nat) (h : i < l.length), G (fk + 1) i = if p l[i] then some (.ret (r i)) else G fk (w64 ((i : Int) + 1)))
    (hz : ∀ fk, G (fk + 1) l.length = some (.next (l.length : Int))) (fk : Nat) (hk : l.length < fk) :
    G fk 0 = some (if l.any p then .ret (r (l.findIdx p)) else .next (l.length : Int)) := by
  have := scan_loop l G p r hn hG hz fk 0 (by omega) (by omega)
  simpa using this
def gd {α : Type} (l : List α) (i : Nat) (d : α) : α := (l[i]?).getD d
theorem idx_gd {α : Type} {l : List α} {i : Nat} (d : α) (h : i < l.length) : idx l (i : Int) = some (gd l i d) := by
  rw [idx_in h, gd, List.getElem?_eq_getElem h]; rfl
theorem gd_in {α : Type} {l : List α} {i : Nat} (d : α) (h : i < l.length) : gd l i d = l[i] := by
  rw [gd, List.getElem?_eq_getElem h]; rfl
theorem any_same {α : Type} {p q : α → Bool} : ∀ {l : List α}, (∀ i ∈ l, p i = q i) → l.any p = l.any q
  | [], _ => rfl
  | x :: l, h => by rw [List.any_cons, List.any_cons, h x (by simp), any_same fun i hi => h i (by simp [hi])]
theorem w64_dec {i : Nat} (h : 0 < i) (hn : i ≤ 2097152) : w64 ((i : Int) - 1) = ((i - 1 : Nat) : Int) := by
  rw [w64_in (by omega) (by omega)]; omega
end AT
