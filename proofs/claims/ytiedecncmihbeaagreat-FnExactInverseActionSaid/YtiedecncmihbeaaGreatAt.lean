/- The step lemmas of the engine AT: frames as lists of known slots, memory as a list of known blocks, rows and readings; no program in sight. -/
import Derived.WalkKit
import Derived.OrdersHeld
import Derived.Maps.AppendAt
namespace AT
open Go Go.RowKit

/-! ### Frames -/
def lk : List (Nat × Value) → Nat → Option Value
  | [], _ => none
  | (t, v) :: L, s => bif Nat.beq t s then some v else lk L s

theorem lk_cons (t : Nat) (v : Value) (L : List (Nat × Value)) (s : Nat) : lk ((t, v) :: L) s = if t = s then some v else lk L s := by
  show (bif Nat.beq t s then some v else lk L s) = _
  by_cases h : t = s
  · subst h; simp
  · have : Nat.beq t s = false := by
      rcases hb : Nat.beq t s with _ | _
      · rfl
      · exact absurd (Nat.eq_of_beq_eq_true hb) h
    simp [this, h]

structure Fr (a : Act) (n : Nat) (L : List (Nat × Value)) : Prop where
  size : a.tmps.size = n
  defs : a.defers = []
  get : ∀ t v, lk L t = some v → a.tmps[t]? = some v

def ev (L : List (Nat × Value)) : Operand → Option Value
  | .tmp t => lk L t
  | .const v => some v
  | .func f => some (.func (.func f) #[] #[])
  | .global g => some (.pointer (some ⟨g, 0, none⟩))

def evs (L : List (Nat × Value)) : List Operand → Option (List Value)
  | [] => some []
  | x :: r => (ev L x).bind fun v => (evs L r).map (v :: ·)

section
variable {a : Act} {n : Nat} {L : List (Nat × Value)}
theorem Fr.eval (hf : Fr a n L) {x : Operand} {v : Value} (h : ev L x = some v) : a.eval x = v := by
  cases x with
  | tmp t => have := hf.get t v h; simp [Act.eval, this]
  | const u => simpa [ev, Act.eval] using h
  | global g => simpa [ev, Act.eval] using h
  | func f => simpa [ev, Act.eval] using h

theorem Fr.evals (hf : Fr a n L) : ∀ {xs : List Operand} {vs : List Value}, evs L xs = some vs → xs.map a.eval = vs
  | [], vs, h => by simp [evs] at h; simp [h]
  | x :: r, vs, h => by
    simp only [evs, Option.bind_eq_some_iff, Option.map_eq_some_iff] at h
    obtain ⟨v, hv, us, hus, rfl⟩ := h
    simp [hf.eval hv, hf.evals hus]

theorem Fr.put (hf : Fr a n L) {d : Nat} (hd : d < n) (v : Value) : Fr (a.put (some d) v) n ((d, v) :: L) := by
  refine ⟨by simp [Act.put, hf.size], by simp [Act.put, hf.defs], fun t u h => ?_⟩
  rw [lk_cons] at h
  simp only [Act.put]
  by_cases he : d = t
  · subst he
    simp at h; subst h
    simp [hf.size, hd]
  · rw [if_neg he] at h
    rw [Array.getElem?_setIfInBounds_ne he]
    exact hf.get t u h

def pickS (L : List (Nat × Value)) : List Nat → Option (List (Nat × Value))
  | [] => some []
  | t :: r => match lk L t with
    | none => none
    | some v => match pickS L r with
      | none => none
      | some l => some ((t, v) :: l)

theorem Fr.prune (hf : Fr a n L) : ∀ (ts : List Nat) {L' : List (Nat × Value)}, pickS L ts = some L' → Fr a n L'
  | [], L', h => by
    simp only [pickS, Option.some.injEq] at h
    subst h
    exact ⟨hf.size, hf.defs, fun t v ht => by simp [lk] at ht⟩
  | t :: r, L', h => by
    unfold pickS at h
    split at h
    · cases h
    · rename_i v hv
      split at h
      · cases h
      · rename_i l hl
        simp only [Option.some.injEq] at h
        subst h
        have ih := hf.prune r hl
        refine ⟨hf.size, hf.defs, fun s u hs => ?_⟩
        rw [lk_cons] at hs
        by_cases he : t = s
        · rw [if_pos he] at hs
          injection hs with hs
          subst hs he
          exact hf.get t v hv
        · rw [if_neg he] at hs
          exact ih.get s u hs

theorem Fr.entry (args : List Value) (n : Nat) (h : args.length ≤ n) :
    Fr { tmps := args.toArray ++ Array.replicate (n - args.toArray.size) undef, defers := [] } n (args.zipIdx.map fun p => (p.2, p.1)) := by
  refine ⟨by simp; omega, rfl, fun t v ht => ?_⟩
  have key : ∀ (l : List Value) (k t : Nat) (v : Value), lk ((l.zipIdx k).map fun p => (p.2, p.1)) t = some v → k ≤ t ∧ l[t - k]? = some v := by
    intro l
    induction l with
    | nil => intro k t v h; simp [lk] at h
    | cons x r ih =>
      intro k t v h
      rw [List.zipIdx_cons, List.map_cons, lk_cons] at h
      by_cases he : k = t
      · subst he; simp at h; simp [h]
      · rw [if_neg he] at h
        obtain ⟨h1, h2⟩ := ih (k + 1) t v h
        refine ⟨by omega, ?_⟩
        rw [show t - k = (t - (k + 1)) + 1 by omega]
        simpa using h2
  obtain ⟨_, h2⟩ := key args 0 t v ht
  have hlt : t < args.length := (List.getElem?_eq_some_iff.1 h2).1
  simp only [Nat.sub_zero] at h2
  rw [Array.getElem?_append_left (by simpa using hlt)]
  simpa using h2
end

/-! ### One operation at a time -/
section
variable {P : Program} {ops : Array Oper} {Q : Exit → Act → World → Prop} {a : Act} {w : World} {n : Nat} {L : List (Nat × Value)} {K : Act → World → Prop}

theorem op_q {o : Oper} {d : Nat} {v : Value} (hf : Fr a n L) (hr : (execOp a.eval o).run P w = .ok (.value v) w) (hd : o.dst = some d) (hdn : d < n)
    (k : ∀ a', Fr a' n ((d, v) :: L) → K a' w) : o.wp P a w K Q := by
  unfold Oper.wp
  rw [hr, Oper.upon_value, hd]
  exact k _ (hf.put hdn v)

theorem wl0 {o : Oper} {rest : List Oper} (hg : o.guard = none) (h : o.wp P a w (wpList P ops Q rest) Q) : wpList P ops Q (o :: rest) a w := by
  unfold wpList
  rw [if_pos (by simp [Region.wanted, hg])]
  exact .inl h

theorem yielded_of (hf : Fr a n L) {j d : Nat} {b : Bool} (hj : (ops[j]?).bind (·.dst) = some d) (hb : lk L d = some (.bool b)) : yielded ops a.tmps j = some b := by
  unfold yielded
  simp [hj, hf.get d _ hb]

theorem wlg {o : Oper} {rest : List Oper} {j d : Nat} {b : Bool} (hf : Fr a n L) (hg : o.guard = some (j, b)) (hj : (ops[j]?).bind (·.dst) = some d) (hb : lk L d = some (.bool b))
    (h : o.wp P a w (wpList P ops Q rest) Q) : wpList P ops Q (o :: rest) a w := by
  unfold wpList
  rw [if_pos (by simp [Region.wanted, hg, yielded_of hf hj hb])]
  exact .inl h

theorem wls {o : Oper} {rest : List Oper} {j d e : Nat} {b c : Bool} (hf : Fr a n L) (hg : o.guard = some (j, b)) (hj : (ops[j]?).bind (·.dst) = some d) (hb : lk L d = some (.bool c)) (hne : (c == b) = false)
    (hd : o.dst = some e) (hdn : e < n) (h : ∀ a', Fr a' n ((e, undef) :: L) → wpList P ops Q rest a' w) : wpList P ops Q (o :: rest) a w := by
  unfold wpList
  rw [if_neg (by simp [Region.wanted, hg, yielded_of hf hj hb]; simpa using hne)]
  rw [hd]
  exact h _ (hf.put hdn undef)

theorem wl_end (h : Q .normal a w) : wpList P ops Q [] a w := h

theorem reg {id : Nat} {l : List Oper} (h : wpList P l.toArray Q l a w) : (Code.region id l.toArray false).wp P Q a w := wp_region_lit h

end
end AT

