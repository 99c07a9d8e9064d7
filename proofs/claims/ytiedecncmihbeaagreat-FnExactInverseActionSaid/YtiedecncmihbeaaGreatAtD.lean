/- From the readings of a row's arguments to what the walks ask. -/
import Derived.Test.YtiedecncmihbeaaGreatAtV
import Derived.Deep.Slices
import Derived.ProofKit
import Derived.OpenShut
namespace AT
open Go Go.RowKit

def Rd (P : Program) (t : TypeId) (α : Type) [GoTy α] (ok : α → Prop) : Prop :=
  ∀ (H : Type) (enc : TypeId × Value → H) (w : World) (base : Nat) (spare : Nat → Bool) (held : Bool) (fuel : Nat) (cs : List Value) (x : DataW H × List MemPlace),
    DataW.trod enc P w base spare held fuel t cs = some x → ∃ y : α, GoTy.rep w (fun _ => True) cs y ∧ ok y

theorem rd_int {P : Program} {t : TypeId} (ht : P.underlying t = some (.int .i64)) : Rd P t Int (fun x => -9223372036854775808 ≤ x ∧ x ≤ 9223372036854775807) := by
  intro H enc w base spare held fuel cs x h
  obtain ⟨n, rfl, -, hw⟩ := DataW.trod_int ht h
  have h2 := bounds_i64 hw
  exact ⟨n, rfl, by omega⟩
theorem rd_str {P : Program} {t : TypeId} (ht : P.underlying t = some .string) : Rd P t ByteArray (fun s => s.size ≤ 9223372036854775807) := by
  intro H enc w base spare held fuel cs x h
  obtain ⟨s, rfl, -, hs⟩ := DataW.trod_string ht h
  exact ⟨s, rfl, by simp only [maxLen] at hs; omega⟩

theorem choose_list {α : Type} (P : Nat → α → Prop) : ∀ n, (∀ i, i < n → ∃ x, P i x) → ∃ l : List α, l.length = n ∧ ∀ i x, l[i]? = some x → P i x
  | 0, _ => ⟨[], rfl, by simp⟩
  | n + 1, h => by
    obtain ⟨l, hl, hp⟩ := choose_list P n (fun i hi => h i (by omega))
    obtain ⟨x, hx⟩ := h n (by omega)
    refine ⟨l ++ [x], by simp [hl], fun i y hy => ?_⟩
    rw [List.getElem?_append] at hy
    split at hy
    · exact hp i y hy
    · rename_i hi
      have : i = n := by
        have h1 := (List.getElem?_eq_some_iff.1 hy).1
        simp at h1; omega
      subst this
      rw [hl, Nat.sub_self] at hy
      simp at hy
      subst hy; exact hx

theorem rd_list {P : Program} {t e : TypeId} {α : Type} [GoTy α] {ok : α → Prop} (ht : P.underlying t = some (.slice e)) (hn : P.cellsOf e = GoTy.n α) (he : Rd P e α ok) :
    Rd P t (List α) (fun l => (∀ x ∈ l, ok x) ∧ l.length ≤ 9223372036854775807) := by
  intro H enc w base spare held fuel cs x h
  rcases Go.Deep.open_slice ht h with ⟨rfl, -⟩ | ⟨a, len, cap, m, n, D, Pl, rfl, -, hl, hm, hmm, -, hi⟩
  · exact ⟨[], lrep_nil, by simp⟩
  · have hel : ∀ i, i < len → ∃ y : α, (ElemAt α w (fun _ => True) a i y) ∧ ok y := by
      intro i hlt
      obtain ⟨cs', hc, ht'⟩ := hi i (by rw [hmm]; split <;> omega)
      obtain ⟨y, hr, ho⟩ := he H enc w base spare held n cs' _ ht'
      refine ⟨y, ⟨cs', fun j c hj => ?_, hr⟩, ho⟩
      obtain ⟨_, hcl, hat⟩ := World.cells?_some hc
      have hj' : j < P.cellsOf e := by
        have := (List.getElem?_eq_some_iff.1 hj).1
        rw [GoTy.len hr, ← hn] at this; exact this
      have h1 := hat j hj'
      rw [hj, add_add, hn] at h1
      exact h1
    obtain ⟨l, hll, hp⟩ := choose_list _ len hel
    subst hll
    refine ⟨l, ⟨some a, cap, rfl, hl, hm, fun i x hx => ⟨a, rfl, trivial, (hp i x hx).1⟩⟩, fun x hx => ?_, by simp only [maxLen] at hm; omega⟩
    obtain ⟨i, hi'⟩ := List.mem_iff_getElem?.1 hx
    exact (hp i x hi').2

theorem sp_more {l : List Value} (o k : Nat) : l.drop o = (l.drop o).take k ++ l.drop (o + k) := by
  rw [← List.drop_drop, List.take_append_drop]
theorem sp_last {l : List Value} (o k : Nat) (h : l.length = o + k) : l.drop o = (l.drop o).take k := by
  rw [List.take_of_length_le]; simp; omega

theorem rdv_agg {P : Program} {t : TypeId} {α : Type} [GoTy α] {ok : α → Prop} (hr : Rd P t α ok) (ha : GoTy.agg α = true) {H : Type} {enc : TypeId × Value → H} {w : World} {base : Nat} {spare : Nat → Bool} {held : Bool} {v : Value} {d : DataW H} {p : List MemPlace} {n : Nat}
    (hv : ∃ cs, v = .agg cs ∧ cs.size = n) (h : DataW.Trod enc P w base spare held t v d p) : ∃ y : α, VR w (fun _ => True) v y ∧ ok y := by
  obtain ⟨cs, rfl, -⟩ := hv
  obtain ⟨fuel, hf⟩ := h
  obtain ⟨y, hy, ho⟩ := hr H enc w base spare held fuel _ _ hf
  exact ⟨y, ⟨_, hy, by rw [ha]; simp [Value.cells]⟩, ho⟩
theorem ai {a b : Bool} (h : a = true) (k : b = true) : (a && b) = true := by rw [h, k]; rfl
theorem wordsSigns_app : ∀ (p : List Char) (_ : p.all (· != (Char.ofNat (nat_lit 32))) = true) (r : List Char), wordsSigns (p ++ (Char.ofNat (nat_lit 32)) :: r) = p :: wordsSigns r
  | [], _, _ => rfl
  | c :: p, h, r => by
    simp only [List.all_cons, Bool.and_eq_true, bne_iff_ne] at h
    have ih := wordsSigns_app p h.2 r
    rw [List.cons_append, wordsSigns, ih]
    exact h.1
theorem head_of (P : Program) (sum r : List Char) (h : P.initOrder = String.ofList ("harness".toList ++ (Char.ofNat (nat_lit 32)) :: (sum ++ (Char.ofNat (nat_lit 32)) :: ("cut".toList ++ (Char.ofNat (nat_lit 32)) :: r))))
    (h1 : isSumSigns sum = true) (h2 : sum.all (· != (Char.ofNat (nat_lit 32))) = true) : behindMainWord (wordsSigns P.initOrder.toList) = "cut".toList :: wordsSigns r := by
  rw [h, String.toList_ofList, wordsSigns_app _ (by decide +kernel), wordsSigns_app _ h2, wordsSigns_app _ (by decide +kernel)]
  show (if (("harness".toList == "harness".toList || _) && isSumSigns sum) = true then _ else _) = _
  rw [h1]; simp
theorem make_of {P : Program} {R} (h : behindMainWord (wordsSigns P.initOrder.toList) = "cut".toList :: R) : P.make = some .cut := by
  unfold Program.make; rw [h]; rfl
theorem lifts_of {P : Program} {R} (h : behindMainWord (wordsSigns P.initOrder.toList) = "cut".toList :: R) : P.liftsFinal = false := by
  unfold Program.liftsFinal Program.headLifts; rw [h]; rfl
theorem enter_of {P : Program} {R} (h : behindMainWord (wordsSigns P.initOrder.toList) = "cut".toList :: R) (a : P.laysLater = false) (b : P.bearsReflect = false) (c : P.doorRows.isEmpty = true) : P.mayEnter = true := by
  have e : stripLifts liftWords ("cut".toList :: R) = ([], "cut".toList :: R) := rfl
  have c' : P.doorRows = [] := List.isEmpty_iff.mp c
  unfold Program.mayEnter; rw [h]; simp only [e, a, b, Program.doorFits, c']
  cases R <;> rfl
end AT

