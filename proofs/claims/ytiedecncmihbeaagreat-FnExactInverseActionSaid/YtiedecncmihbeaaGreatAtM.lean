/- Memory as a function's walk knows it: own blocks, own rows, data that it owns with all that hangs on it, readings of what is only read. -/
import Derived.Test.YtiedecncmihbeaaGreatAtQ
set_option linter.unusedSimpArgs false
set_option linter.unusedVariables false
namespace AT
open Go Go.RowKit

theorem block_add (p : Addr) (k : Nat) : (p.add k).block = p.block := by unfold Addr.add; split <;> rfl
theorem add_add (p : Addr) (i j : Nat) : (p.add i).add j = p.add (i + j) := by
  unfold Addr.add
  by_cases hi : i = 0 <;> by_cases hj : j = 0 <;> simp [hi, hj, Nat.add_assoc]
theorem add_lit (b k j : Nat) : (⟨b, k, none⟩ : Addr).add j = ⟨b, k + j, none⟩ := by
  unfold Addr.add; split <;> simp_all

def Moves (w w' : World) (S S' : Nat → Prop) : Prop := ∀ b, S b → b < w.heap.size → S' b ∧ w'.heap[b]? = w.heap[b]?
theorem Moves.cell {w w' : World} {S S' : Nat → Prop} (h : Moves w w' S S') {p : Addr} (hp : S p.block) {v : Value} (hc : w.cell? p = some v) : w'.cell? p = some v :=
  (World.cell?_of_block ((h _ hp (World.block_lt_of_cell? w p hc)).2)).trans hc
theorem Moves.refl (w : World) (S : Nat → Prop) : Moves w w S S := fun _ h _ => ⟨h, rfl⟩
def Same (w w' : World) (F : List Nat) : Prop := ∀ b ∈ F, w'.heap[b]? = w.heap[b]?
theorem Same.sub {w w' : World} {F F' : List Nat} (h : Same w w' F) (hs : ∀ b ∈ F', b ∈ F) : Same w w' F' := fun b hb => h b (hs b hb)

class GoTy (α : Type) where
  n : Nat
  agg : Bool
  flat : Bool
  rep : World → (Nat → Prop) → List Value → α → Prop
  own : World → List Nat → List Value → α → Prop
  pos : 0 < n
  len : ∀ {w S cs x}, rep w S cs x → cs.length = n
  one : ∀ {w S cs x}, rep w S cs x → ∀ c ∈ cs, c.oneCell' = true
  mono : ∀ {w w' S S' cs x}, rep w S cs x → Moves w w' S S' → rep w' S' cs x
  own_rep : ∀ {w F cs x}, own w F cs x → rep w (· ∈ F) cs x
  own_mono : ∀ {w w' F cs x}, own w F cs x → Same w w' F → own w' F cs x
  own_lt : ∀ {w F cs x}, own w F cs x → ∀ b ∈ F, b < w.heap.size
  own_flat : ∀ {w S cs x}, flat = true → rep w S cs x → own w [] cs x

instance : GoTy Int where
  n := 1
  agg := false
  flat := true
  rep _ _ cs x := cs = [.int .i64 x]
  own _ F cs x := F = [] ∧ cs = [.int .i64 x]
  pos := by decide
  len := by rintro _ _ _ _ rfl; rfl
  one := by rintro _ _ _ _ rfl; simp [Value.oneCell']
  mono := fun h _ => h
  own_rep := fun h => h.2
  own_mono := fun h _ => h
  own_lt := by rintro _ _ _ _ ⟨rfl, _⟩ _ h; cases h
  own_flat := fun _ h => ⟨rfl, h⟩
instance : GoTy Bool where
  n := 1
  agg := false
  flat := true
  rep _ _ cs x := cs = [.bool x]
  own _ F cs x := F = [] ∧ cs = [.bool x]
  pos := by decide
  len := by rintro _ _ _ _ rfl; rfl
  one := by rintro _ _ _ _ rfl; simp [Value.oneCell']
  mono := fun h _ => h
  own_rep := fun h => h.2
  own_mono := fun h _ => h
  own_lt := by rintro _ _ _ _ ⟨rfl, _⟩ _ h; cases h
  own_flat := fun _ h => ⟨rfl, h⟩
instance : GoTy ByteArray where
  n := 1
  agg := false
  flat := true
  rep _ _ cs x := cs = [.string x]
  own _ F cs x := F = [] ∧ cs = [.string x]
  pos := by decide
  len := by rintro _ _ _ _ rfl; rfl
  one := by rintro _ _ _ _ rfl; simp [Value.oneCell']
  mono := fun h _ => h
  own_rep := fun h => h.2
  own_mono := fun h _ => h
  own_lt := by rintro _ _ _ _ ⟨rfl, _⟩ _ h; cases h
  own_flat := fun _ h => ⟨rfl, h⟩

def ElemAt (α : Type) [GoTy α] (w : World) (S : Nat → Prop) (p : Addr) (i : Nat) (x : α) : Prop :=
  ∃ cs : List Value, (∀ j c, cs[j]? = some c → w.cell? (p.add (i * GoTy.n α + j)) = some c) ∧ GoTy.rep w S cs x

def lrep {α : Type} [GoTy α] (w : World) (S : Nat → Prop) (cs : List Value) (xs : List α) : Prop :=
  ∃ A cap, cs = [.slice A xs.length cap] ∧ xs.length ≤ cap ∧ cap ≤ maxLen ∧ ∀ i x, xs[i]? = some x → ∃ p, A = some p ∧ S p.block ∧ ElemAt α w S p i x

def part' (α : Type) [GoTy α] (cells : List Value) (i : Nat) : List Value := (cells.drop (i * GoTy.n α)).take (GoTy.n α)

def lown {α : Type} [GoTy α] (w : World) (F : List Nat) (cs : List Value) (xs : List α) : Prop :=
  ∃ A cap E cells Fs, cs = [.slice A xs.length cap] ∧ w.ownsRow 0 E (GoTy.n α) (.slice A xs.length cap) xs.length cells ∧ F = (Value.slice A xs.length cap).ownBlock.toList ++ List.flatten Fs ∧ Fs.length = xs.length ∧
    ∀ (i : Nat) (x : α) (Fi : List Nat), xs[i]? = some x → Fs[i]? = some Fi → GoTy.own w Fi (part' α cells i) x

theorem ElemAt.mono {α : Type} [GoTy α] {w w' : World} {S S' : Nat → Prop} {p : Addr} {i : Nat} {x : α} (h : ElemAt α w S p i x) (hp : S p.block) (hm : Moves w w' S S') : ElemAt α w' S' p i x := by
  obtain ⟨cs, hc, hr⟩ := h
  exact ⟨cs, fun j c hj => hm.cell (by rw [block_add]; exact hp) (hc j c hj), GoTy.mono hr hm⟩

theorem ElemAt.lt {α : Type} [GoTy α] {w : World} {S : Nat → Prop} {p : Addr} {i : Nat} {x : α} (h : ElemAt α w S p i x) : p.block < w.heap.size := by
  obtain ⟨cs, hc, hr⟩ := h
  have hl := GoTy.len hr
  have hp := GoTy.pos (α := α)
  have := hc 0 (cs[0]'(by omega)) (List.getElem?_eq_getElem (by omega))
  have := World.block_lt_of_cell? w _ this
  rwa [block_add] at this

theorem ownsRow_same {w w' : World} {B : Nat} {E : TypeId} {s : Nat} {v : Value} {n : Nat} {xs : List Value} (h : w.ownsRow B E s v n xs) (hs : Same w w' v.ownBlock.toList) : w'.ownsRow B E s v n xs := by
  refine ⟨h.1, ?_⟩
  rcases h.2 with hn | ⟨g, cap, cur, rfl, hb, hgg, rest⟩
  · exact .inl hn
  · exact .inr ⟨g, cap, cur, rfl, hb, (hs g (by simp [Value.ownBlock])).trans hgg, rest⟩

theorem row_rep {α : Type} [GoTy α] {w : World} {E : TypeId} {A : Option Addr} {cap : Nat} {xs : List α} {cells : List Value} {S : Nat → Prop} (ho : w.ownsRow 0 E (GoTy.n α) (.slice A xs.length cap) xs.length cells)
    (hS : ∀ b, (Value.slice A xs.length cap).ownBlock = some b → S b) (hel : ∀ i x, xs[i]? = some x → GoTy.rep w S (part' α cells i) x) : lrep w S [.slice A xs.length cap] xs := by
  rcases ho.2 with ⟨hv, h0⟩ | ⟨b, cap', cur, hv, hb, hh, hnc, hcm, hcs, htk⟩
  · have hx : xs = [] := List.eq_nil_of_length_eq_zero h0
    simp only [Value.slice.injEq] at hv
    exact ⟨A, cap, rfl, by omega, by rw [hv.2.2]; simp [maxLen], fun j x hj => by rw [hx] at hj; simp at hj⟩
  · simp only [Value.slice.injEq] at hv
    obtain ⟨rfl, -, rfl⟩ := hv
    refine ⟨_, cap, rfl, hnc, hcm, fun j x hj => ⟨_, rfl, hS b rfl, part' α cells j, fun k c hk => ?_, hel j x hj⟩⟩
    have hc := ho.cells (g := b) rfl (j * GoTy.n α + k) c
    refine hc ?_
    unfold part' at hk
    have hlt : k < GoTy.n α := by
      have := (List.getElem?_eq_some_iff.1 hk).1
      simp only [List.length_take] at this; omega
    rw [List.getElem?_take_of_lt hlt, List.getElem?_drop] at hk
    exact hk

theorem mem_fs {Fs : List (List Nat)} {i : Nat} {Fi : List Nat} (h : Fs[i]? = some Fi) {b : Nat} (hb : b ∈ Fi) : b ∈ List.flatten Fs := List.mem_flatten.2 ⟨Fi, List.mem_of_getElem? h, hb⟩
theorem get_fs {β : Type} {Fs : List (List Nat)} {xs : List β} (h : Fs.length = xs.length) {i : Nat} {x : β} (hx : xs[i]? = some x) : ∃ Fi, Fs[i]? = some Fi := by
  have := (List.getElem?_eq_some_iff.1 hx).1
  exact ⟨Fs[i]'(by omega), List.getElem?_eq_getElem _⟩

instance {α : Type} [GoTy α] : GoTy (List α) where
  n := 1
  agg := false
  flat := false
  rep := lrep
  own := lown
  pos := by decide
  len := by rintro _ _ _ _ ⟨A, c, rfl, _⟩; rfl
  one := by rintro _ _ _ _ ⟨A, c, rfl, _⟩; simp [Value.oneCell']
  mono := by
    rintro w w' S S' cs x ⟨A, c, rfl, h1, h2, h3⟩ hm
    refine ⟨A, c, rfl, h1, h2, fun i x hx => ?_⟩
    obtain ⟨p, hA, hp, he⟩ := h3 i x hx
    exact ⟨p, hA, (hm _ hp he.lt).1, he.mono hp hm⟩
  own_rep := by
    rintro w F cs xs ⟨A, cap, E, cells, Fs, rfl, ho, rfl, hl, hel⟩
    refine row_rep ho (fun b hb => by simp [hb]) fun i x hx => ?_
    obtain ⟨Fi, hFi⟩ := get_fs hl hx
    exact GoTy.mono (GoTy.own_rep (hel i x Fi hx hFi)) fun b hb _ => ⟨List.mem_append.2 (.inr (mem_fs hFi hb)), rfl⟩
  own_mono := by
    rintro w w' F cs xs ⟨A, cap, E, cells, Fs, rfl, ho, rfl, hl, hel⟩ hs
    exact ⟨A, cap, E, cells, Fs, rfl, ownsRow_same ho (hs.sub fun b hb => List.mem_append.2 (.inl hb)), rfl, hl, fun i x Fi hx hFi => GoTy.own_mono (hel i x Fi hx hFi) (hs.sub fun b hb => List.mem_append.2 (.inr (mem_fs hFi hb)))⟩
  own_lt := by
    rintro w F cs xs ⟨A, cap, E, cells, Fs, rfl, ho, rfl, hl, hel⟩ b hb
    rcases List.mem_append.1 hb with h | h
    · exact (ho.lt b (by simpa using h)).2
    · obtain ⟨Fi, hFi, hb'⟩ := List.mem_flatten.1 h
      obtain ⟨i, hi⟩ := List.mem_iff_getElem?.1 hFi
      have hlt : i < xs.length := by have := (List.getElem?_eq_some_iff.1 hi).1; omega
      exact GoTy.own_lt (hel i _ Fi (List.getElem?_eq_getElem hlt) hi) b hb'
  own_flat := fun h => by cases h

@[reducible] def GoTy.two (α β γ : Type) [GoTy α] [GoTy β] (f : γ → α) (g : γ → β) : GoTy γ where
  n := GoTy.n α + GoTy.n β
  agg := true
  flat := GoTy.flat α && GoTy.flat β
  rep w S cs x := ∃ c1 c2, cs = c1 ++ c2 ∧ GoTy.rep w S c1 (f x) ∧ GoTy.rep w S c2 (g x)
  own w F cs x := ∃ c1 c2 F1 F2, cs = c1 ++ c2 ∧ F = F1 ++ F2 ∧ GoTy.own w F1 c1 (f x) ∧ GoTy.own w F2 c2 (g x)
  pos := by have := GoTy.pos (α := α); omega
  len := by
    rintro _ _ _ _ ⟨c1, c2, rfl, h1, h2⟩
    simp [GoTy.len h1, GoTy.len h2]
  one := by
    rintro _ _ _ _ ⟨c1, c2, rfl, h1, h2⟩ c hc
    rcases List.mem_append.1 hc with h | h
    · exact GoTy.one h1 c h
    · exact GoTy.one h2 c h
  mono := by
    rintro w w' S S' cs x ⟨c1, c2, rfl, h1, h2⟩ hm
    exact ⟨c1, c2, rfl, GoTy.mono h1 hm, GoTy.mono h2 hm⟩
  own_rep := by
    rintro w F cs x ⟨c1, c2, F1, F2, rfl, rfl, h1, h2⟩
    exact ⟨c1, c2, rfl, GoTy.mono (GoTy.own_rep h1) fun b hb _ => ⟨List.mem_append.2 (.inl hb), rfl⟩, GoTy.mono (GoTy.own_rep h2) fun b hb _ => ⟨List.mem_append.2 (.inr hb), rfl⟩⟩
  own_mono := by
    rintro w w' F cs x ⟨c1, c2, F1, F2, rfl, rfl, h1, h2⟩ hs
    exact ⟨c1, c2, F1, F2, rfl, rfl, GoTy.own_mono h1 (hs.sub fun b hb => List.mem_append.2 (.inl hb)), GoTy.own_mono h2 (hs.sub fun b hb => List.mem_append.2 (.inr hb))⟩
  own_lt := by
    rintro w F cs x ⟨c1, c2, F1, F2, rfl, rfl, h1, h2⟩ b hb
    rcases List.mem_append.1 hb with h | h
    · exact GoTy.own_lt h1 b h
    · exact GoTy.own_lt h2 b h
  own_flat := by
    rintro w S cs x hf ⟨c1, c2, rfl, h1, h2⟩
    simp only [Bool.and_eq_true] at hf
    exact ⟨c1, c2, [], [], rfl, rfl, GoTy.own_flat hf.1 h1, GoTy.own_flat hf.2 h2⟩
instance {α β : Type} [GoTy α] [GoTy β] : GoTy (α × β) := GoTy.two α β (α × β) Prod.fst Prod.snd
@[reducible] def GoTy.via {α γ : Type} [GoTy α] (f : γ → α) : GoTy γ where
  n := GoTy.n α
  agg := true
  flat := GoTy.flat α
  rep w S cs x := GoTy.rep w S cs (f x)
  own w F cs x := GoTy.own w F cs (f x)
  pos := GoTy.pos (α := α)
  len := GoTy.len (α := α)
  one := GoTy.one (α := α)
  mono := GoTy.mono (α := α)
  own_rep := GoTy.own_rep (α := α)
  own_mono := GoTy.own_mono (α := α)
  own_lt := GoTy.own_lt (α := α)
  own_flat := GoTy.own_flat (α := α)

structure MP where
  pred : World → (Nat → Prop) → Prop
  mono : ∀ {w w' : World} {S S' : Nat → Prop}, pred w S → Moves w w' S S' → pred w' S'
def MP.val {α : Type} [GoTy α] (cs : List Value) (x : α) : MP := ⟨fun w S => GoTy.rep w S cs x, GoTy.mono⟩
def MP.cells (p : Addr) (cs : List Value) : MP := ⟨fun w S => S p.block ∧ p.block < w.heap.size ∧ ∀ j c, cs[j]? = some c → w.cell? (p.add j) = some c, by
  rintro w w' S S' ⟨h1, h2, h3⟩ hm
  have hb := hm _ h1 h2
  refine ⟨hb.1, ?_, fun j c hj => hm.cell (by rw [block_add]; exact h1) (h3 j c hj)⟩
  rcases Nat.lt_or_ge p.block w'.heap.size with h | h
  · exact h
  · have h4 := hb.2
    rw [Array.getElem?_eq_none h, Array.getElem?_eq_getElem h2] at h4
    cases h4⟩
def MP.own {α : Type} [GoTy α] (F : List Nat) (cs : List Value) (x : α) : MP := ⟨fun w S => GoTy.own w F cs x ∧ ∀ b ∈ F, S b, by
  rintro w w' S S' ⟨h1, h2⟩ hm
  exact ⟨GoTy.own_mono h1 fun b hb => (hm b (h2 b hb) (GoTy.own_lt h1 b hb)).2, fun b hb => (hm b (h2 b hb) (GoTy.own_lt h1 b hb)).1⟩⟩

structure Base where
  w : World
  G : List Nat
def Base.nw (B : Base) (b : Nat) : Prop := B.w.heap.size ≤ b ∨ b ∈ B.G
structure Kept (B : Base) (w : World) : Prop where
  os : w.os = B.w.os
  tape : w.tape = B.w.tape
  output : w.output = B.w.output
  size : B.w.heap.size ≤ w.heap.size
  block : ∀ k, ¬ B.nw k → w.heap[k]? = B.w.heap[k]?
structure Chg (w w' : World) (X : List Nat) : Prop where
  os : w'.os = w.os
  tape : w'.tape = w.tape
  output : w'.output = w.output
  size : w.heap.size ≤ w'.heap.size
  block : ∀ k, k < w.heap.size → k ∉ X → w'.heap[k]? = w.heap[k]?
theorem Chg.refl (w : World) (X : List Nat) : Chg w w X := ⟨rfl, rfl, rfl, Nat.le_refl _, fun _ _ _ => rfl⟩
theorem Chg.sub {w w' : World} {X Y : List Nat} (h : Chg w w' X) (hs : ∀ b ∈ X, b ∈ Y) : Chg w w' Y := ⟨h.os, h.tape, h.output, h.size, fun k hk hn => h.block k hk fun hx => hn (hs k hx)⟩

structure Res where
  fm : List Nat
  fd : List Nat
  fresh : Bool
  ok : World → (Nat → Prop) → Prop
  mono : ∀ {w w' : World} {T T' : Nat → Prop}, ok w T → Same w w' (fm ++ fd) → Moves w w' T T' → ok w' T'
def Res.all (r : Res) : List Nat := r.fm ++ r.fd
def fmZ (Z : List Res) : List Nat := Z.flatMap Res.fm
def allZ (Z : List Res) : List Nat := Z.flatMap Res.all
theorem fm_all {Z : List Res} {b : Nat} (h : b ∈ fmZ Z) : b ∈ allZ Z := by
  obtain ⟨r, hr, hb⟩ := List.mem_flatMap.1 h
  exact List.mem_flatMap.2 ⟨r, hr, List.mem_append.2 (.inl hb)⟩
theorem fmZ_app (X Y : List Res) : fmZ (X ++ Y) = fmZ X ++ fmZ Y := List.flatMap_append
theorem allZ_app (X Y : List Res) : allZ (X ++ Y) = allZ X ++ allZ Y := List.flatMap_append
def Res.tight (r : Res) : Prop := ∀ {w : World} {T T' : Nat → Prop}, r.ok w T → r.ok w T'

def StZ (w0 : Base) (S : Nat → Prop) (Z : List Res) (f : Bool) (b : Nat) : Prop := (f = false ∧ ¬ w0.nw b ∧ S b) ∨ (w0.nw b ∧ b ∉ fmZ Z)

structure MemZ (w0 : Base) (S : Nat → Prop) (Z : List Res) (I : List (Bool × MP)) (w : World) : Prop where
  below : Kept w0 w
  lt : ∀ b ∈ allZ Z, w0.nw b ∧ b < w.heap.size
  nd : (allZ Z).Nodup
  ok : ∀ r ∈ Z, r.ok w (StZ w0 S Z r.fresh)
  imm : ∀ f ∈ I, f.2.pred w (StZ w0 S Z f.1)

section
variable {w0 : Base} {w w' : World} {S : Nat → Prop} {Z Z' rs rs' : List Res} {I : List (Bool × MP)}

theorem MemZ.perm (H : MemZ w0 S Z I w) (h : Z.Perm Z') : MemZ w0 S Z' I w := by
  have ha : (allZ Z).Perm (allZ Z') := h.flatMap_right _
  have hf : (fmZ Z).Perm (fmZ Z') := h.flatMap_right _
  have hst : ∀ f, StZ w0 S Z' f = StZ w0 S Z f := fun f => by funext b; unfold StZ; rw [hf.mem_iff]
  exact ⟨H.below, fun b hb => H.lt b (ha.mem_iff.2 hb), ha.nodup_iff.1 H.nd, fun r hr => by rw [hst]; exact H.ok r (h.mem_iff.2 hr), fun f hf => by rw [hst]; exact H.imm f hf⟩

theorem MemZ.nw_new (H : MemZ w0 S Z I w) {b : Nat} (h : w.heap.size ≤ b) : w0.nw b := .inl (Nat.le_trans H.below.size h)
theorem lt_of_old {b : Nat} (h : ¬ w0.nw b) : b < w0.w.heap.size := Nat.lt_of_not_ge fun h' => h (.inl h')

theorem MemZ.kept (H : MemZ w0 S (rs ++ Z) I w) (hw : Chg w w' (allZ rs)) : Kept w0 w' :=
  ⟨hw.os.trans H.below.os, hw.tape.trans H.below.tape, hw.output.trans H.below.output, Nat.le_trans H.below.size hw.size, fun k hk =>
    (hw.block k (Nat.lt_of_lt_of_le (lt_of_old hk) H.below.size) fun hx => hk (H.lt k (by rw [allZ_app]; exact List.mem_append.2 (.inl hx))).1).trans (H.below.block k hk)⟩

theorem MemZ.nd' (H : MemZ w0 S (rs ++ Z) I w) (hsz : w.heap.size ≤ w'.heap.size) (hsub : ∀ b ∈ allZ rs', b ∈ allZ rs ∨ (w.heap.size ≤ b ∧ b < w'.heap.size)) (hnd : (allZ rs').Nodup) :
    (allZ (rs' ++ Z)).Nodup ∧ ∀ b ∈ allZ (rs' ++ Z), w0.nw b ∧ b < w'.heap.size := by
  have h1 := H.nd
  rw [allZ_app] at h1
  obtain ⟨h2, h3, h4⟩ := List.nodup_append.1 h1
  rw [allZ_app]
  refine ⟨List.nodup_append.2 ⟨hnd, h3, fun b hb c hc e => ?_⟩, fun b hb => ?_⟩
  · subst e
    rcases hsub b hb with h | ⟨h, _⟩
    · exact h4 b h b hc rfl
    · have := (H.lt b (by rw [allZ_app]; exact List.mem_append.2 (.inr hc))).2; omega
  · rcases List.mem_append.1 hb with h | h
    · rcases hsub b h with h | ⟨h, h'⟩
      · have := H.lt b (by rw [allZ_app]; exact List.mem_append.2 (.inl h))
        exact ⟨this.1, Nat.lt_of_lt_of_le this.2 hsz⟩
      · exact ⟨H.nw_new h, h'⟩
    · have := H.lt b (by rw [allZ_app]; exact List.mem_append.2 (.inr h))
      exact ⟨this.1, Nat.lt_of_lt_of_le this.2 hsz⟩

theorem MemZ.apart (H : MemZ w0 S (rs ++ Z) I w) {q : Res} (hq : q ∈ Z) {b : Nat} (hb : b ∈ q.all) : b ∉ allZ rs ∧ b < w.heap.size := by
  have h1 := H.nd
  rw [allZ_app] at h1
  have hZ : b ∈ allZ Z := List.mem_flatMap.2 ⟨q, hq, hb⟩
  exact ⟨fun h => (List.nodup_append.1 h1).2.2 b h b hZ rfl, (H.lt b (by rw [allZ_app]; exact List.mem_append.2 (.inr hZ))).2⟩

theorem MemZ.step (H : MemZ w0 S (rs ++ Z) I w) (hw : Chg w w' (fmZ rs)) (hsub : ∀ b ∈ allZ rs', b ∈ allZ rs ∨ (w.heap.size ≤ b ∧ b < w'.heap.size)) (hfm : ∀ b ∈ fmZ rs', b ∈ fmZ rs ∨ w.heap.size ≤ b) (hnd : (allZ rs').Nodup)
    (hok : (∀ f, Moves w w' (StZ w0 S (rs ++ Z) f) (StZ w0 S (rs' ++ Z) f)) → ∀ r ∈ rs', r.ok w' (StZ w0 S (rs' ++ Z) r.fresh)) : MemZ w0 S (rs' ++ Z) I w' := by
  have hm : ∀ f, Moves w w' (StZ w0 S (rs ++ Z) f) (StZ w0 S (rs' ++ Z) f) := fun f b hb hlt => by
    rcases hb with ⟨h1, h2, h3⟩ | ⟨h1, h2⟩
    · refine ⟨.inl ⟨h1, h2, h3⟩, hw.block b hlt fun hx => h2 (H.lt b ?_).1⟩
      rw [allZ_app]; exact List.mem_append.2 (.inl (fm_all hx))
    · rw [fmZ_app] at h2
      refine ⟨.inr ⟨h1, fun h => ?_⟩, hw.block b hlt fun hx => h2 (List.mem_append.2 (.inl hx))⟩
      rw [fmZ_app] at h
      rcases List.mem_append.1 h with h | h
      · rcases hfm b h with h | h
        · exact h2 (List.mem_append.2 (.inl h))
        · omega
      · exact h2 (List.mem_append.2 (.inr h))
  obtain ⟨hn, hl⟩ := H.nd' hw.size hsub hnd
  refine ⟨H.kept (hw.sub fun b hb => fm_all hb), hl, hn, fun r hr => ?_, fun f hf => f.2.mono (H.imm f hf) (hm _)⟩
  rcases List.mem_append.1 hr with h | h
  · exact hok hm r h
  · exact r.mono (H.ok r (List.mem_append.2 (.inr h))) (fun b hb => hw.block b (H.apart h hb).2 fun hx => (H.apart h hb).1 (fm_all hx)) (hm _)

theorem MemZ.turn (H : MemZ w0 S (rs ++ Z) I w) (hw : Chg w w' (allZ rs)) (hsub : ∀ b ∈ allZ rs', b ∈ allZ rs ∨ (w.heap.size ≤ b ∧ b < w'.heap.size)) (hnd : (allZ rs').Nodup) (ht : ∀ r ∈ Z, r.tight)
    (hok : ∀ r ∈ rs', r.ok w' (StZ w0 S (rs' ++ Z) r.fresh)) : MemZ w0 S (rs' ++ Z) [] w' := by
  obtain ⟨hn, hl⟩ := H.nd' hw.size hsub hnd
  refine ⟨H.kept hw, hl, hn, fun r hr => ?_, fun f hf => by cases hf⟩
  rcases List.mem_append.1 hr with h | h
  · exact hok r h
  · refine ht r h (T := fun _ => False) (r.mono (ht r h (T' := fun _ => False) (H.ok r (List.mem_append.2 (.inr h)))) (fun b hb => ?_) fun b hb => hb.elim)
    exact hw.block b (H.apart h hb).2 (H.apart h hb).1

theorem MemZ.get (H : MemZ w0 S Z I w) (i : Nat) {f : Bool × MP} (hi : I[i]? = some f) : f.2.pred w (StZ w0 S Z f.1) := H.imm f (List.mem_of_getElem? hi)
theorem MemZ.push (H : MemZ w0 S Z I w) (f : Bool × MP) (hf : f.2.pred w (StZ w0 S Z f.1)) : MemZ w0 S Z (f :: I) w :=
  ⟨H.below, H.lt, H.nd, H.ok, fun g hg => by
    rcases List.mem_cons.1 hg with rfl | h
    · exact hf
    · exact H.imm g h⟩
theorem MemZ.keep (H : MemZ w0 S Z I w) (hk : Below w.heap.size w w') : MemZ w0 S Z I w' := by
  have := MemZ.step (rs := []) (rs' := []) (Z := Z) (w' := w') H ⟨hk.os, hk.tape, hk.output, hk.size, fun k hk' _ => hk.block k hk'⟩ (fun b hb => by cases hb) (fun b hb => by cases hb) .nil (fun _ r hr => by cases hr)
  exact this
end
end AT

