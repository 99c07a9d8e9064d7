/- Memory as a function's walk knows it: own blocks, own rows, readings of what is only read; and what each operation on memory does to that. -/
import Derived.Test.YtijgfgfolkbkoaaAtQ
set_option linter.unusedSimpArgs false
set_option linter.unusedVariables false
namespace AT
open Go Go.RowKit

theorem block_add (p : Addr) (k : Nat) : (p.add k).block = p.block := by unfold Addr.add; split <;> rfl
theorem add_add (p : Addr) (i j : Nat) : (p.add i).add j = p.add (i + j) := by
  unfold Addr.add
  by_cases hi : i = 0 <;> by_cases hj : j = 0 <;> simp [hi, hj, Nat.add_assoc]
theorem add_lit (b k j : Nat) : (⟨b, k, none⟩ : Addr).add j = ⟨b, k + j, none⟩ := by
  unfold Addr.add; split <;> simp_all

/-- The blocks of S are there as they were, and of S'. -/
def Moves (w w' : World) (S S' : Nat → Prop) : Prop := ∀ b, S b → b < w.heap.size → S' b ∧ w'.heap[b]? = w.heap[b]?
theorem Moves.cell {w w' : World} {S S' : Nat → Prop} (h : Moves w w' S S') {p : Addr} (hp : S p.block) {v : Value} (hc : w.cell? p = some v) : w'.cell? p = some v :=
  (World.cell?_of_block ((h _ hp (World.block_lt_of_cell? w p hc)).2)).trans hc
theorem Moves.refl (w : World) (S : Nat → Prop) : Moves w w S S := fun _ h _ => ⟨h, rfl⟩

/-- A type of Go data: how many cells, and when cells hold a datum, in a world, all that is reached lying in blocks of S. -/
class GoTy (α : Type) where
  n : Nat
  agg : Bool
  rep : World → (Nat → Prop) → List Value → α → Prop
  pos : 0 < n
  len : ∀ {w S cs x}, rep w S cs x → cs.length = n
  one : ∀ {w S cs x}, rep w S cs x → ∀ c ∈ cs, c.oneCell' = true
  mono : ∀ {w w' S S' cs x}, rep w S cs x → Moves w w' S S' → rep w' S' cs x

instance : GoTy Int where
  n := 1
  agg := false
  rep _ _ cs x := cs = [.int .i64 x]
  pos := by decide
  len := by rintro _ _ _ _ rfl; rfl
  one := by rintro _ _ _ _ rfl; simp [Value.oneCell']
  mono := fun h _ => h
instance : GoTy Bool where
  n := 1
  agg := false
  rep _ _ cs x := cs = [.bool x]
  pos := by decide
  len := by rintro _ _ _ _ rfl; rfl
  one := by rintro _ _ _ _ rfl; simp [Value.oneCell']
  mono := fun h _ => h
instance : GoTy ByteArray where
  n := 1
  agg := false
  rep _ _ cs x := cs = [.string x]
  pos := by decide
  len := by rintro _ _ _ _ rfl; rfl
  one := by rintro _ _ _ _ rfl; simp [Value.oneCell']
  mono := fun h _ => h

/-- The cells of element i lie behind p. -/
def ElemAt (α : Type) [GoTy α] (w : World) (S : Nat → Prop) (p : Addr) (i : Nat) (x : α) : Prop :=
  ∃ cs : List Value, (∀ j c, cs[j]? = some c → w.cell? (p.add (i * GoTy.n α + j)) = some c) ∧ GoTy.rep w S cs x

def lrep {α : Type} [GoTy α] (w : World) (S : Nat → Prop) (cs : List Value) (xs : List α) : Prop :=
  ∃ A cap, cs = [.slice A xs.length cap] ∧ xs.length ≤ cap ∧ cap ≤ maxLen ∧ ∀ i x, xs[i]? = some x → ∃ p, A = some p ∧ S p.block ∧ ElemAt α w S p i x

theorem ElemAt.mono {α : Type} [GoTy α] {w w' : World} {S S' : Nat → Prop} {p : Addr} {i : Nat} {x : α} (h : ElemAt α w S p i x) (hp : S p.block) (hm : Moves w w' S S') : ElemAt α w' S' p i x := by
  obtain ⟨cs, hc, hr⟩ := h
  exact ⟨cs, fun j c hj => hm.cell (by rw [block_add]; exact hp) (hc j c hj), GoTy.mono hr hm⟩

theorem ElemAt.lt {α : Type} [GoTy α] {w : World} {S : Nat → Prop} {p : Addr} {i : Nat} {x : α} (h : ElemAt α w S p i x) : p.block < w.heap.size := by
  obtain ⟨cs, hc, hr⟩ := h
  have hl := GoTy.len hr
  have hp := GoTy.pos (α := α)
  have := hc 0 (cs[0]'(by omega)) (List.getElem?_eq_getElem (by omega))
  have := World.block_lt_of_cell? w _ this
  rwa [block_add] at this

instance {α : Type} [GoTy α] : GoTy (List α) where
  n := 1
  agg := false
  rep := lrep
  pos := by decide
  len := by rintro _ _ _ _ ⟨A, c, rfl, _⟩; rfl
  one := by rintro _ _ _ _ ⟨A, c, rfl, _⟩; simp [Value.oneCell']
  mono := by
    rintro w w' S S' cs x ⟨A, c, rfl, h1, h2, h3⟩ hm
    refine ⟨A, c, rfl, h1, h2, fun i x hx => ?_⟩
    obtain ⟨p, hA, hp, he⟩ := h3 i x hx
    exact ⟨p, hA, (hm _ hp he.lt).1, he.mono hp hm⟩

/-- A structure whose fields lie one behind the other. -/
@[reducible] def GoTy.two (α β γ : Type) [GoTy α] [GoTy β] (f : γ → α) (g : γ → β) : GoTy γ where
  n := GoTy.n α + GoTy.n β
  agg := true
  rep w S cs x := ∃ c1 c2, cs = c1 ++ c2 ∧ GoTy.rep w S c1 (f x) ∧ GoTy.rep w S c2 (g x)
  pos := by have := GoTy.pos (α := α); omega
  len := by
    rintro _ _ _ _ ⟨c1, c2, rfl, h1, h2⟩
    simp [GoTy.len h1, GoTy.len h2]
  one := by
    rintro _ _ _ _ ⟨c1, c2, rfl, h1, h2⟩ c hc
    rcases List.mem_append.1 hc with h | h
    · exact GoTy.one h1 c h
    · exact GoTy.one h2 c h
  mono := by
    rintro w w' S S' cs x ⟨c1, c2, rfl, h1, h2⟩ hm
    exact ⟨c1, c2, rfl, GoTy.mono h1 hm, GoTy.mono h2 hm⟩
instance {α β : Type} [GoTy α] [GoTy β] : GoTy (α × β) := GoTy.two α β (α × β) Prod.fst Prod.snd
@[reducible] def GoTy.via {α γ : Type} [GoTy α] (f : γ → α) : GoTy γ where
  n := GoTy.n α
  agg := true
  rep w S cs x := GoTy.rep w S cs (f x)
  pos := GoTy.pos (α := α)
  len := GoTy.len (α := α)
  one := GoTy.one (α := α)
  mono := GoTy.mono (α := α)

/-- Something that is known of memory, and that stays true while the blocks of S stay as they are. -/
structure MP where
  pred : World → (Nat → Prop) → Prop
  mono : ∀ {w w' : World} {S S' : Nat → Prop}, pred w S → Moves w w' S S' → pred w' S'
def MP.val {α : Type} [GoTy α] (cs : List Value) (x : α) : MP := ⟨fun w S => GoTy.rep w S cs x, GoTy.mono⟩
def MP.cells (p : Addr) (cs : List Value) : MP := ⟨fun w S => S p.block ∧ p.block < w.heap.size ∧ ∀ j c, cs[j]? = some c → w.cell? (p.add j) = some c, by
  rintro w w' S S' ⟨h1, h2, h3⟩ hm
  have hb := hm _ h1 h2
  refine ⟨hb.1, ?_, fun j c hj => hm.cell (by rw [block_add]; exact h1) (h3 j c hj)⟩
  rcases Nat.lt_or_ge p.block w'.heap.size with h | h
  · exact h
  · have h4 := hb.2
    rw [Array.getElem?_eq_none h, Array.getElem?_eq_getElem h2] at h4
    cases h4⟩

structure Blk where
  b : Nat
  T : TypeId
  cs : List Value
structure Row where
  {α : Type}
  [inst : GoTy α]
  fresh : Bool
  E : TypeId
  A : Option Addr
  cap : Nat
  xs : List α
attribute [instance] Row.inst
def Row.v (r : Row) : Value := .slice r.A r.xs.length r.cap
def ownB (M : List Blk) (R : List Row) : List Nat := M.map (·.b) ++ R.filterMap (·.v.ownBlock)

/-- Where what is only read may lie: among the blocks S of before the call, and (always) in the call's own new blocks that are not written any more. -/
def St (w0 : World) (S : Nat → Prop) (M : List Blk) (R : List Row) (f : Bool) (b : Nat) : Prop :=
  (f = false ∧ b < w0.heap.size ∧ S b) ∨ (w0.heap.size ≤ b ∧ b ∉ ownB M R)

def Row.ok (r : Row) (w0 : World) (S : Nat → Prop) (w : World) : Prop :=
  ∃ cells, w.ownsRow w0.heap.size r.E (GoTy.n r.α) r.v r.xs.length cells ∧ ∀ i x, r.xs[i]? = some x → GoTy.rep w S ((cells.drop (i * GoTy.n r.α)).take (GoTy.n r.α)) x

structure Mem (w0 : World) (S : Nat → Prop) (M : List Blk) (R : List Row) (I : List (Bool × MP)) (w : World) : Prop where
  below : Below w0.heap.size w0 w
  blk : ∀ m ∈ M, w0.heap.size ≤ m.b ∧ w.heap[m.b]? = some (.cells m.cs.toArray m.T (0, 0))
  row : ∀ r ∈ R, r.ok w0 (St w0 S M R r.fresh) w
  nd : (ownB M R).Nodup
  imm : ∀ f ∈ I, f.2.pred w (St w0 S M R f.1)

section
variable {w0 w w' : World} {S : Nat → Prop} {M : List Blk} {R : List Row} {I : List (Bool × MP)}

theorem Mem.init (I : List (Bool × MP)) (h : ∀ f ∈ I, f.1 = false ∧ f.2.pred w0 S) : Mem w0 S [] [] I w0 := by
  refine ⟨Below.refl _ _, by simp, by simp, by simp [ownB], fun f hf => ?_⟩
  obtain ⟨h1, h2⟩ := h f hf
  rw [h1]
  exact f.2.mono h2 fun b hb hlt => ⟨.inl ⟨rfl, hlt, hb⟩, rfl⟩

theorem Mem.get (H : Mem w0 S M R I w) (i : Nat) {f : Bool × MP} (hi : I[i]? = some f) : f.2.pred w (St w0 S M R f.1) := H.imm f (List.mem_of_getElem? hi)

theorem Mem.own_lt (H : Mem w0 S M R I w) : ∀ b ∈ ownB M R, w0.heap.size ≤ b ∧ b < w.heap.size := by
  intro b hb
  unfold ownB at hb
  rcases List.mem_append.1 hb with h | h
  · obtain ⟨m, hm, rfl⟩ := List.mem_map.1 h
    obtain ⟨h1, h2⟩ := H.blk m hm
    exact ⟨h1, (Array.getElem?_eq_some_iff.1 h2).1⟩
  · obtain ⟨r, hr, hrb⟩ := List.mem_filterMap.1 h
    obtain ⟨cells, ho, _⟩ := H.row r hr
    exact ho.lt b hrb

/-- Old blocks as they were: all that is known stays known. -/
theorem Mem.keep (H : Mem w0 S M R I w) (hk : Below w.heap.size w w') : Mem w0 S M R I w' := by
  have hm : ∀ f, Moves w w' (St w0 S M R f) (St w0 S M R f) := fun f b hb hlt => ⟨hb, hk.block b hlt⟩
  refine ⟨H.below.trans (hk.mono H.below.size), fun m hm => ?_, fun r hr => ?_, H.nd, fun f hf => f.2.mono (H.imm f hf) (hm _)⟩
  · obtain ⟨h1, h2⟩ := H.blk m hm
    exact ⟨h1, (hk.block _ (Array.getElem?_eq_some_iff.1 h2).1).trans h2⟩
  · obtain ⟨cells, ho, he⟩ := H.row r hr
    refine ⟨cells, ?_, fun i x hx => GoTy.mono (he i x hx) (hm _)⟩
    exact ho.kept (row := none) ⟨hk.os, hk.tape, hk.output, hk.size, fun k hk' _ => hk.block k hk'⟩ (by cases r.v.ownBlock <;> simp)

theorem Mem.drew (H : Mem w0 S M R I w) : Mem w0 S M R I w.drew := H.keep ((Below.refl _ _).drew)

theorem Mem.push (H : Mem w0 S M R I w) (f : Bool × MP) (hf : f.2.pred w (St w0 S M R f.1)) : Mem w0 S M R (f :: I) w :=
  ⟨H.below, H.blk, H.row, H.nd, fun g hg => by
    rcases List.mem_cons.1 hg with rfl | h
    · exact hf
    · exact H.imm g h⟩

def mask.{u} {α : Type u} : List Bool → List α → List α
  | true :: bs, x :: xs => x :: mask bs xs
  | false :: bs, _ :: xs => mask bs xs
  | _, _ => []
theorem mask_sub.{u} {α : Type u} : ∀ (bs : List Bool) (xs : List α), (mask bs xs).Sublist xs
  | [], [] => .slnil
  | [], _ :: _ => by simp [mask]
  | true :: _, [] => .slnil
  | false :: _, [] => .slnil
  | true :: bs, x :: xs => (mask_sub bs xs).cons_cons x
  | false :: bs, _ :: xs => (mask_sub bs xs).cons _

theorem St.weaken {M' : List Blk} {R' : List Row} (h : ∀ b ∈ ownB M' R', b ∈ ownB M R) (f : Bool) : Moves w w (St w0 S M R f) (St w0 S M' R' f) := fun b hb _ => by
  refine ⟨?_, rfl⟩
  rcases hb with hb | ⟨h1, h2⟩
  · exact .inl hb
  · exact .inr ⟨h1, fun h3 => h2 (h b h3)⟩

/-- What is not wanted any more is let go. -/
theorem Mem.let (H : Mem w0 S M R I w) (bm br : List Bool) (is : List Nat) : Mem w0 S (mask bm M) (mask br R) (is.filterMap (I[·]?)) w := by
  have h1 := mask_sub bm M
  have h2 := mask_sub br R
  have hs : (ownB (mask bm M) (mask br R)).Sublist (ownB M R) := (h1.map _).append (h2.filterMap _)
  have hw : ∀ f, Moves w w (St w0 S M R f) (St w0 S (mask bm M) (mask br R) f) := St.weaken fun b hb => hs.mem hb
  refine ⟨H.below, fun m hm => H.blk m (h1.mem hm), fun r hr => ?_, hs.nodup H.nd, fun f hf => ?_⟩
  · obtain ⟨cells, ho, he⟩ := H.row r (h2.mem hr)
    exact ⟨cells, ho, fun i x hx => GoTy.mono (he i x hx) (hw _)⟩
  · obtain ⟨i, _, hi⟩ := List.mem_filterMap.1 hf
    exact f.2.mono (H.imm f (List.mem_of_getElem? hi)) (hw _)

/-- A new block of the call's own. -/
theorem Mem.alloc (H : Mem w0 S M R I w) (T : TypeId) (cs : List Value) : Mem w0 S (⟨w.heap.size, T, cs⟩ :: M) R I (w.alloc (.cells cs.toArray T)) := by
  have hB := H.below.size
  have hm : ∀ f, Moves w (w.alloc (.cells cs.toArray T)) (St w0 S M R f) (St w0 S (⟨w.heap.size, T, cs⟩ :: M) R f) := fun f b hb hlt => by
    refine ⟨?_, Below.heap_alloc _ _ _ hlt⟩
    rcases hb with hb | ⟨h1, h2⟩
    · exact .inl hb
    · refine .inr ⟨h1, fun h3 => ?_⟩
      simp only [ownB, List.map_cons, List.cons_append, List.mem_cons] at h3
      rcases h3 with h3 | h3
      · omega
      · exact h2 h3
  refine ⟨H.below.alloc hB _, fun m hm => ?_, fun r hr => ?_, ?_, fun f hf => f.2.mono (H.imm f hf) (hm _)⟩
  · rcases List.mem_cons.1 hm with rfl | h
    · exact ⟨hB, heap_alloc_new w _⟩
    · obtain ⟨h1, h2⟩ := H.blk m h
      exact ⟨h1, (Below.heap_alloc _ _ _ (Array.getElem?_eq_some_iff.1 h2).1).trans h2⟩
  · obtain ⟨cells, ho, he⟩ := H.row r hr
    exact ⟨cells, ho.alloc _, fun i x hx => GoTy.mono (he i x hx) (hm _)⟩
  · simp only [ownB, List.map_cons, List.cons_append, List.nodup_cons]
    exact ⟨fun h => by have := (H.own_lt _ h).2; omega, H.nd⟩

theorem Mem.blk_ne (H : Mem w0 S M R I w) {i j : Nat} {m m' : Blk} (hi : M[i]? = some m) (hj : M[j]? = some m') (h : i ≠ j) : m.b ≠ m'.b := by
  have hn := (List.nodup_append.1 H.nd).1
  intro e
  have h1 : (M.map (·.b))[i]? = some m.b := by simp [hi]
  have h2 : (M.map (·.b))[j]? = some m.b := by simp [hj, e]
  have hl : i < (M.map (·.b)).length := (List.getElem?_eq_some_iff.1 h1).1
  exact h ((List.getElem?_inj hl hn).1 (h1.trans h2.symm))

theorem Mem.blk_row_ne (H : Mem w0 S M R I w) {m : Blk} {r : Row} (hi : m ∈ M) (hr : r ∈ R) : r.v.ownBlock ≠ some m.b := by
  intro e
  have h3 := (List.nodup_append.1 H.nd).2.2
  exact h3 m.b (List.mem_map.2 ⟨m, hi, rfl⟩) m.b (List.mem_filterMap.2 ⟨r, hr, e⟩) rfl

/-- A store into a block of the call's own. -/
theorem Mem.set (H : Mem w0 S M R I w) (i : Nat) {b : Nat} {T : TypeId} {cs : List Value} (hi : M[i]? = some ⟨b, T, cs⟩) (j : Nat) (v : Value) :
    Mem w0 S (M.set i ⟨b, T, cs.set j v⟩) R I (w.setCell ⟨b, j, none⟩ v) := by
  have hmem := List.mem_of_getElem? hi
  obtain ⟨hb0, hb⟩ := H.blk _ hmem
  have hown : ownB (M.set i ⟨b, T, cs.set j v⟩) R = ownB M R := by
    unfold ownB
    rw [List.map_set]
    congr 1
    apply List.ext_getElem? fun k => ?_
    by_cases hk : i = k
    · subst hk; simp [hi, List.getElem?_set]
      obtain ⟨hl, _⟩ := List.getElem?_eq_some_iff.1 hi
      simp [hl]
    · simp [List.getElem?_set, hk]
  have hinn : b ∈ ownB M R := by unfold ownB; exact List.mem_append.2 (.inl (List.mem_map.2 ⟨_, hmem, rfl⟩))
  have hst : ∀ f, St w0 S (M.set i ⟨b, T, cs.set j v⟩) R f = St w0 S M R f := fun f => by unfold St; rw [hown]
  have hm : ∀ f, Moves w (w.setCell ⟨b, j, none⟩ v) (St w0 S M R f) (St w0 S (M.set i ⟨b, T, cs.set j v⟩) R f) := fun f c hc hlt => by
    rw [hst]
    refine ⟨hc, Below.heap_setCell _ _ _ _ ?_⟩
    rintro rfl
    rcases hc with ⟨_, h, _⟩ | ⟨_, h⟩
    · exact absurd h (Nat.not_lt.2 hb0)
    · exact h hinn
  refine ⟨H.below.setCell hb0 v, fun m hm' => ?_, fun r hr => ?_, by rw [hown]; exact H.nd, fun f hf => f.2.mono (H.imm f hf) (hm _)⟩
  · obtain ⟨k, hk⟩ := List.mem_iff_getElem?.1 hm'
    by_cases hik : i = k
    · subst hik
      obtain ⟨hl, _⟩ := List.getElem?_eq_some_iff.1 hi
      simp [hl] at hk
      subst hk
      refine ⟨hb0, ?_⟩
      simp only at hb
      simp [World.setCell, Array.getElem?_modify, hb]
    · rw [List.getElem?_set_ne hik] at hk
      obtain ⟨h1, h2⟩ := H.blk m (List.mem_of_getElem? hk)
      exact ⟨h1, (Below.heap_setCell _ _ _ _ (H.blk_ne hk hi (Ne.symm hik))).trans h2⟩
  · obtain ⟨cells, ho, he⟩ := H.row r hr
    refine ⟨cells, ?_, fun i x hx => GoTy.mono (he i x hx) (hm _)⟩
    refine ho.kept (row := some b) ⟨rfl, rfl, rfl, by simp, fun k _ hk => Below.heap_setCell _ _ _ _ (by rintro rfl; exact hk rfl)⟩ (.inr (H.blk_row_ne hmem hr))

theorem Mem.cell (H : Mem w0 S M R I w) {i : Nat} {b : Nat} {T : TypeId} {cs : List Value} (hi : M[i]? = some ⟨b, T, cs⟩) (j : Nat) : w.cell? ⟨b, j, none⟩ = cs[j]? := by
  rw [cell_of_row w b j _ _ _ (H.blk _ (List.mem_of_getElem? hi)).2]
  simp
theorem Mem.unfrozen (H : Mem w0 S M R I w) {i : Nat} {b : Nat} {T : TypeId} {cs : List Value} (hi : M[i]? = some ⟨b, T, cs⟩) (j : Nat) : w.frozen? ⟨b, j, none⟩ = false :=
  frozen_of_row w b j _ _ (H.blk _ (List.mem_of_getElem? hi)).2
end
end AT
