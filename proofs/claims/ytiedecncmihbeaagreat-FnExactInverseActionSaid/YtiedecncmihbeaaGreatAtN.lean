/- Own blocks, rows and owned data, and what each way of turning them does to all that is known. -/
import Derived.Test.YtiedecncmihbeaaGreatAtM
set_option linter.unusedSimpArgs false
set_option linter.unusedVariables false
namespace AT
open Go Go.RowKit

structure Blk where
  b : Nat
  T : TypeId
  cs : List Value
inductive Kd where
  | sh (fresh : Bool)
  | ow (Fs : List (List Nat))
def Kd.fd : Kd → List Nat
  | .sh _ => []
  | .ow Fs => List.flatten Fs
def Kd.fresh : Kd → Bool
  | .sh f => f
  | .ow _ => true
def Kd.fits : Kd → Nat → Prop
  | .sh _, _ => True
  | .ow Fs, n => Fs.length = n
def Kd.holds {α : Type} [GoTy α] (k : Kd) (w : World) (T : Nat → Prop) (i : Nat) (cs : List Value) (x : α) : Prop :=
  match k with
  | .sh _ => GoTy.rep w T cs x
  | .ow Fs => ∀ Fi, Fs[i]? = some Fi → GoTy.own w Fi cs x
structure Row where
  {α : Type}
  [inst : GoTy α]
  k : Kd
  E : TypeId
  A : Option Addr
  cap : Nat
  xs : List α
attribute [instance] Row.inst
def Row.v (r : Row) : Value := .slice r.A r.xs.length r.cap
structure DI where
  F : List Nat
  p : MP

theorem Kd.holds_mono {α : Type} [GoTy α] {k : Kd} {w w' : World} {T T' : Nat → Prop} {i : Nat} {cs : List Value} {x : α} (h : k.holds w T i cs x) (hs : Same w w' k.fd) (hm : Moves w w' T T') : k.holds w' T' i cs x := by
  cases k with
  | sh f => exact GoTy.mono h hm
  | ow Fs => exact fun Fi hFi => GoTy.own_mono (h Fi hFi) (hs.sub fun b hb => mem_fs hFi hb)

def Blk.res (m : Blk) : Res := ⟨[m.b], [], true, fun w _ => w.heap[m.b]? = some (.cells m.cs.toArray m.T (0, 0)), fun h hs _ => (hs _ (by simp)).trans h⟩
def Row.ok (r : Row) (w : World) (T : Nat → Prop) : Prop :=
  ∃ cells, w.ownsRow 0 r.E (GoTy.n r.α) r.v r.xs.length cells ∧ r.k.fits r.xs.length ∧ ∀ i x, r.xs[i]? = some x → r.k.holds w T i (part' r.α cells i) x
def Row.res (r : Row) : Res := ⟨r.v.ownBlock.toList, r.k.fd, r.k.fresh, r.ok, by
  rintro w w' T T' ⟨cells, ho, hf, hel⟩ hs hm
  exact ⟨cells, ownsRow_same ho (hs.sub fun b hb => List.mem_append.2 (.inl hb)), hf, fun i x hx => Kd.holds_mono (hel i x hx) (hs.sub fun b hb => List.mem_append.2 (.inr hb)) hm⟩⟩
def DI.res (d : DI) : Res := ⟨[], d.F, true, fun w _ => d.p.pred w (· ∈ d.F) ∧ ∀ b ∈ d.F, b < w.heap.size, by
  rintro w w' T T' ⟨h, hl⟩ hs _
  refine ⟨d.p.mono h fun b hb _ => ⟨hb, hs b hb⟩, fun b hb => ?_⟩
  have h1 := hs b hb
  rcases Nat.lt_or_ge b w'.heap.size with h | h
  · exact h
  · rw [Array.getElem?_eq_none h, Array.getElem?_eq_getElem (hl b hb)] at h1
    cases h1⟩
theorem Blk.tight (m : Blk) : m.res.tight := fun h => h
theorem DI.tight (d : DI) : d.res.tight := fun h => h

def zs (M : List Blk) (R : List Row) (D : List DI) : List Res := M.map Blk.res ++ (R.map Row.res ++ D.map DI.res)
def St (w0 : Base) (S : Nat → Prop) (M : List Blk) (R : List Row) (D : List DI) (f : Bool) : Nat → Prop := StZ w0 S (zs M R D) f
def Mem (w0 : Base) (S : Nat → Prop) (M : List Blk) (R : List Row) (D : List DI) (I : List (Bool × MP)) (w : World) : Prop := MemZ w0 S (zs M R D) I w

/-! ### Lists of what is owned, one taken out or changed -/
theorem perm_out.{u} {β : Type u} {l : List β} {i : Nat} {x : β} (h : l[i]? = some x) : l.Perm (x :: l.eraseIdx i) := by
  obtain ⟨hl, rfl⟩ := List.getElem?_eq_some_iff.1 h
  rw [List.eraseIdx_eq_take_drop_succ]
  have h2 : l = l.take i ++ l[i] :: l.drop (i + 1) := by rw [List.getElem_cons_drop hl, List.take_append_drop]
  have := List.perm_middle (a := l[i]) (l₁ := l.take i) (l₂ := l.drop (i + 1))
  rwa [← h2] at this
theorem perm_set.{u} {β : Type u} {l : List β} {i : Nat} {x : β} (y : β) (h : l[i]? = some x) : (l.set i y).Perm (y :: l.eraseIdx i) := by
  have hl := (List.getElem?_eq_some_iff.1 h).1
  have h1 : (l.set i y)[i]? = some y := by simp [hl]
  have := perm_out h1
  rwa [List.eraseIdx_set_eq] at this
section
variable {M : List Blk} {R : List Row} {D : List DI}
theorem zsM_out {i : Nat} {m : Blk} (h : M[i]? = some m) : (zs M R D).Perm ([m.res] ++ zs (M.eraseIdx i) R D) := by
  have := ((perm_out h).map Blk.res).append_right (R.map Row.res ++ D.map DI.res)
  exact this
theorem zsM_set {i : Nat} {m : Blk} (m' : Blk) (h : M[i]? = some m) : (zs (M.set i m') R D).Perm ([m'.res] ++ zs (M.eraseIdx i) R D) := by
  have := ((perm_set m' h).map Blk.res).append_right (R.map Row.res ++ D.map DI.res)
  exact this
theorem zsR_cons (r : Row) : (zs M (r :: R) D).Perm ([r.res] ++ zs M R D) := by
  unfold zs
  simp only [List.map_cons, List.cons_append, List.nil_append]
  exact List.perm_middle
theorem zsD_cons (d : DI) : (zs M R (d :: D)).Perm ([d.res] ++ zs M R D) := by
  unfold zs
  simp only [List.map_cons, List.cons_append, List.nil_append]
  rw [← List.append_assoc, ← List.append_assoc]
  exact List.perm_middle
theorem zs_permR {R' : List Row} (h : R.Perm R') : (zs M R D).Perm (zs M R' D) := ((h.map Row.res).append_right _).append_left _
theorem zs_permD {D' : List DI} (h : D.Perm D') : (zs M R D).Perm (zs M R D') := ((h.map DI.res).append_left _).append_left _
theorem zsR_out {i : Nat} {r : Row} (h : R[i]? = some r) : (zs M R D).Perm ([r.res] ++ zs M (R.eraseIdx i) D) := (zs_permR (perm_out h)).trans (zsR_cons r)
theorem zsR_set {i : Nat} {r : Row} (r' : Row) (h : R[i]? = some r) : (zs M (R.set i r') D).Perm ([r'.res] ++ zs M (R.eraseIdx i) D) := (zs_permR (perm_set r' h)).trans (zsR_cons r')
theorem fmZ_one (r : Res) : fmZ [r] = r.fm := by simp [fmZ]
theorem allZ_one (r : Res) : allZ [r] = r.all := by simp [allZ]
theorem allZ_two (r s : Res) : allZ [r, s] = r.all ++ s.all := by simp [allZ]
theorem fmZ_two (r s : Res) : fmZ [r, s] = r.fm ++ s.fm := by simp [fmZ]
end

section
variable {w0 : Base} {w w' : World} {S : Nat → Prop} {M : List Blk} {R : List Row} {D : List DI} {I : List (Bool × MP)}

theorem Mem.get (H : Mem w0 S M R D I w) (i : Nat) {f : Bool × MP} (hi : I[i]? = some f) : f.2.pred w (St w0 S M R D f.1) := MemZ.get H i hi
theorem Mem.push (H : Mem w0 S M R D I w) (f : Bool × MP) (hf : f.2.pred w (St w0 S M R D f.1)) : Mem w0 S M R D (f :: I) w := MemZ.push H f hf
theorem Mem.keep (H : Mem w0 S M R D I w) (hk : Below w.heap.size w w') : Mem w0 S M R D I w' := MemZ.keep H hk
theorem Mem.drew (H : Mem w0 S M R D I w) : Mem w0 S M R D I w.drew := H.keep ((Below.refl _ _).drew)
theorem Mem.size (H : Mem w0 S M R D I w) : w0.w.heap.size ≤ w.heap.size := (MemZ.below H).size

def mask.{u} {α : Type u} : List Bool → List α → List α
  | true :: bs, x :: xs => x :: mask bs xs
  | false :: bs, _ :: xs => mask bs xs
  | _, _ => []
theorem mask_sub.{u} {α : Type u} : ∀ (bs : List Bool) (xs : List α), (mask bs xs).Sublist xs
  | [], [] => .slnil
  | [], _ :: _ => by simp [mask]
  | true :: _, [] => .slnil
  | false :: _, [] => .slnil
  | true :: bs, x :: xs => (mask_sub bs xs).cons_cons x
  | false :: bs, _ :: xs => (mask_sub bs xs).cons _

theorem StZ_perm {Z Z' : List Res} (h : Z.Perm Z') (f : Bool) : StZ w0 S Z f = StZ w0 S Z' f := by
  have hf : (fmZ Z).Perm (fmZ Z') := h.flatMap_right _
  funext b; unfold StZ; rw [hf.mem_iff]
theorem sub_flatMap {f : Res → List Nat} : ∀ {Z Z' : List Res}, Z'.Sublist Z → (Z'.flatMap f).Sublist (Z.flatMap f)
  | _, _, .slnil => .slnil
  | _, _, .cons x h => by rw [List.flatMap_cons]; exact (sub_flatMap h).trans (List.sublist_append_right _ _)
  | _, _, .cons_cons x h => by rw [List.flatMap_cons, List.flatMap_cons]; exact (List.Sublist.refl _).append (sub_flatMap h)
theorem StZ_weaken {Z Z' : List Res} (h : ∀ b ∈ fmZ Z', b ∈ fmZ Z) (f : Bool) : Moves w w (StZ w0 S Z f) (StZ w0 S Z' f) := fun b hb _ => by
  refine ⟨?_, rfl⟩
  rcases hb with hb | ⟨h1, h2⟩
  · exact .inl hb
  · exact .inr ⟨h1, fun h3 => h2 (h b h3)⟩

theorem Mem.let0 (H : Mem w0 S M R D I w) (bm br bd : List Bool) (is : List Nat) : Mem w0 S (mask bm M) (mask br R) (mask bd D) (is.filterMap (I[·]?)) w := by
  have hz : (zs (mask bm M) (mask br R) (mask bd D)).Sublist (zs M R D) := ((mask_sub bm M).map _).append (((mask_sub br R).map _).append ((mask_sub bd D).map _))
  have ha : (allZ (zs (mask bm M) (mask br R) (mask bd D))).Sublist (allZ (zs M R D)) := sub_flatMap hz
  have hf : (fmZ (zs (mask bm M) (mask br R) (mask bd D))).Sublist (fmZ (zs M R D)) := sub_flatMap hz
  have hw : ∀ f, Moves w w (StZ w0 S (zs M R D) f) (StZ w0 S (zs (mask bm M) (mask br R) (mask bd D)) f) := StZ_weaken fun b hb => hf.mem hb
  refine ⟨MemZ.below H, fun b hb => MemZ.lt H b (ha.mem hb), ha.nodup (MemZ.nd H), fun r hr => r.mono (MemZ.ok H r (hz.mem hr)) (fun _ _ => rfl) (hw _), fun f hf => ?_⟩
  obtain ⟨i, _, hi⟩ := List.mem_filterMap.1 hf
  exact f.2.mono (MemZ.imm H f (List.mem_of_getElem? hi)) (hw _)

def maskO.{u} {α : Type u} : List Bool → List α → Option (List α)
  | true :: bs, x :: xs => match maskO bs xs with
    | some l => some (x :: l)
    | none => none
  | false :: bs, _ :: xs => maskO bs xs
  | _, _ => some []
theorem maskO_eq.{u} {α : Type u} : ∀ {bs : List Bool} {xs l : List α}, maskO bs xs = some l → mask bs xs = l
  | true :: bs, x :: xs, l, h => by
    unfold maskO at h
    split at h
    · rename_i l' h'
      injection h with h
      subst h
      unfold mask
      rw [maskO_eq h']
    · cases h
  | false :: bs, _ :: xs, l, h => by unfold mask; exact maskO_eq h
  | [], xs, l, h => by simp only [maskO, Option.some.injEq] at h; subst h; rfl
  | true :: bs, [], l, h => by simp only [maskO, Option.some.injEq] at h; subst h; rfl
  | false :: bs, [], l, h => by simp only [maskO, Option.some.injEq] at h; subst h; rfl
def atO.{u} {α : Type u} : Nat → List α → Option α
  | _, [] => none
  | 0, x :: _ => some x
  | n + 1, _ :: xs => atO n xs
theorem atO_eq.{u} {α : Type u} : ∀ (n : Nat) (xs : List α), atO n xs = xs[n]?
  | _, [] => by simp [atO]
  | 0, x :: _ => by simp [atO]
  | n + 1, _ :: xs => by simp [atO, atO_eq n xs]
def pickO.{u} {α : Type u} (I : List α) : List Nat → Option (List α)
  | [] => some []
  | i :: r => match atO i I with
    | none => none
    | some v => match pickO I r with
      | none => none
      | some l => some (v :: l)
theorem pickO_eq.{u} {α : Type u} {I : List α} : ∀ {is : List Nat} {l : List α}, pickO I is = some l → is.filterMap (I[·]?) = l
  | [], l, h => by simp only [pickO, Option.some.injEq] at h; subst h; rfl
  | i :: r, l, h => by
    unfold pickO at h
    split at h
    · cases h
    · rename_i v hv
      split at h
      · cases h
      · rename_i l' hl
        injection h with h
        subst h
        rw [atO_eq] at hv
        rw [List.filterMap_cons, hv, pickO_eq hl]
theorem Mem.let (H : Mem w0 S M R D I w) (bm br bd : List Bool) (is : List Nat) {M' : List Blk} {R' : List Row} {D' : List DI} {I' : List (Bool × MP)} (hM : maskO bm M = some M') (hR : maskO br R = some R') (hD : maskO bd D = some D') (hI : pickO I is = some I') : Mem w0 S M' R' D' I' w := by
  have h := H.let0 bm br bd is
  rw [maskO_eq hM, maskO_eq hR, maskO_eq hD, pickO_eq hI] at h
  exact h
theorem Chg.alloc (w : World) (o : Obj) (X : List Nat) : Chg w (w.alloc o) X := ⟨rfl, rfl, rfl, by simp, fun k hk _ => Below.heap_alloc _ _ _ hk⟩
theorem MemZ.add {Z : List Res} {r : Res} (H : MemZ w0 S Z I w) (hw : Chg w w' []) (hb : ∀ b ∈ r.all, w.heap.size ≤ b ∧ b < w'.heap.size) (hn : r.all.Nodup) (hok : (∀ f, Moves w w' (StZ w0 S Z f) (StZ w0 S ([r] ++ Z) f)) → r.ok w' (StZ w0 S ([r] ++ Z) r.fresh)) : MemZ w0 S ([r] ++ Z) I w' :=
  MemZ.step (rs := []) (rs' := [r]) H hw (fun b h => .inr (hb b (by rwa [allZ_one] at h))) (fun b h => .inr (hb b (by rw [fmZ_one] at h; exact List.mem_append.2 (.inl h))).1) (by rwa [allZ_one]) fun hm q hq => by
    rw [List.mem_singleton] at hq; subst hq; exact hok hm

theorem Mem.alloc (H : Mem w0 S M R D I w) (T : TypeId) (cs : List Value) : Mem w0 S (⟨w.heap.size, T, cs⟩ :: M) R D I (w.alloc (.cells cs.toArray T)) := by
  refine MemZ.add (r := Blk.res ⟨w.heap.size, T, cs⟩) H (Chg.alloc _ _ _) (fun b hb => ?_) (by simp [Res.all, Blk.res]) fun _ => heap_alloc_new w _
  simp [Res.all, Blk.res] at hb
  subst hb; simp

theorem Mem.cell (H : Mem w0 S M R D I w) {i : Nat} {b : Nat} {T : TypeId} {cs : List Value} (hi : M[i]? = some ⟨b, T, cs⟩) (j : Nat) : w.cell? ⟨b, j, none⟩ = cs[j]? := by
  have h : w.heap[b]? = some (.cells cs.toArray T (0, 0)) := MemZ.ok H (Blk.res ⟨b, T, cs⟩) (List.mem_append.2 (.inl (List.mem_map.2 ⟨_, List.mem_of_getElem? hi, rfl⟩)))
  rw [cell_of_row w b j _ _ _ h]
  simp
theorem Mem.unfrozen (H : Mem w0 S M R D I w) {i : Nat} {b : Nat} {T : TypeId} {cs : List Value} (hi : M[i]? = some ⟨b, T, cs⟩) (j : Nat) : w.frozen? ⟨b, j, none⟩ = false := by
  have h : w.heap[b]? = some (.cells cs.toArray T (0, 0)) := MemZ.ok H (Blk.res ⟨b, T, cs⟩) (List.mem_append.2 (.inl (List.mem_map.2 ⟨_, List.mem_of_getElem? hi, rfl⟩)))
  exact frozen_of_row w b j _ _ h

theorem Mem.set (H : Mem w0 S M R D I w) (i : Nat) {b : Nat} {T : TypeId} {cs : List Value} (hi : M[i]? = some ⟨b, T, cs⟩) (j : Nat) (v : Value) :
    Mem w0 S (M.set i ⟨b, T, cs.set j v⟩) R D I (w.setCell ⟨b, j, none⟩ v) := by
  have h : w.heap[b]? = some (.cells cs.toArray T (0, 0)) := MemZ.ok H (Blk.res ⟨b, T, cs⟩) (List.mem_append.2 (.inl (List.mem_map.2 ⟨_, List.mem_of_getElem? hi, rfl⟩)))
  refine MemZ.perm (MemZ.step (rs := [Blk.res ⟨b, T, cs⟩]) (rs' := [Blk.res ⟨b, T, cs.set j v⟩]) (MemZ.perm H (zsM_out hi)) ⟨rfl, rfl, rfl, by simp [World.setCell], fun k _ hk => Below.heap_setCell _ _ _ _ fun e => hk ?_⟩ (fun b hb => .inl hb) (fun b hb => .inl hb) (by simp [allZ, Res.all, Blk.res]) fun _ q hq => ?_) (zsM_set _ hi).symm
  · rw [fmZ_one]; simp [Blk.res, e]
  · rw [List.mem_singleton] at hq; subst hq
    show (w.setCell _ _).heap[b]? = _
    simp [World.setCell, Array.getElem?_modify, h]

theorem Mem.reRow (H : Mem w0 S M R D I w) {i : Nat} {r r' : Row} {w' : World} (hi : R[i]? = some r) (hg : w.grownBy w' r.v.ownBlock) (hat : r'.v.ownBlock = r.v.ownBlock ∨ (r'.v.ownBlock = some w.heap.size ∧ w.heap.size < w'.heap.size)) (hk : r'.k.fd.Perm r.k.fd)
    (hok : (∀ f, Moves w w' (St w0 S M R D f) (St w0 S M (R.set i r') D f)) → r'.ok w' (St w0 S M (R.set i r') D r'.k.fresh)) : Mem w0 S M (R.set i r') D I w' := by
  have hp := zsR_out (M := M) (D := D) hi
  have hp' := zsR_set (M := M) (D := D) r' hi
  have hst : ∀ f, StZ w0 S (zs M R D) f = StZ w0 S ([r.res] ++ zs M (R.eraseIdx i) D) f := StZ_perm hp
  have hst' : ∀ f, StZ w0 S (zs M (R.set i r') D) f = StZ w0 S ([r'.res] ++ zs M (R.eraseIdx i) D) f := StZ_perm hp'
  have H1 := MemZ.perm H hp
  have hall : ∀ b, b ∈ r'.res.all → b ∈ r.res.all ∨ (w.heap.size ≤ b ∧ b < w'.heap.size) := fun b hb => by
    rcases List.mem_append.1 hb with h | h
    · rcases hat with h1 | ⟨h1, h2⟩
      · exact .inl (List.mem_append.2 (.inl (by rw [show r'.res.fm = r'.v.ownBlock.toList from rfl, h1] at h; exact h)))
      · rw [show r'.res.fm = r'.v.ownBlock.toList from rfl, h1] at h
        simp at h; subst h; exact .inr ⟨Nat.le_refl _, h2⟩
    · exact .inl (List.mem_append.2 (.inr (hk.mem_iff.1 h)))
  refine MemZ.perm (MemZ.step (rs := [r.res]) (rs' := [r'.res]) H1 ⟨hg.os, hg.tape, hg.output, hg.size, fun k hk' hx => hg.block k hk' fun e => hx ?_⟩ (fun b hb => ?_) (fun b hb => ?_) ?_ fun hm q hq => ?_) hp'.symm
  · rw [fmZ_one]; show k ∈ r.v.ownBlock.toList; rw [← e]; simp
  · rw [allZ_one] at hb ⊢; exact hall b hb
  · rw [fmZ_one] at hb ⊢
    rcases hat with h1 | ⟨h1, h2⟩
    · left; rw [show r'.res.fm = r'.v.ownBlock.toList from rfl, h1] at hb; exact hb
    · right; rw [show r'.res.fm = r'.v.ownBlock.toList from rfl, h1] at hb
      simp at hb; omega
  · rw [allZ_one]
    have hn : r.res.all.Nodup := by
      have := MemZ.nd H1
      rw [allZ_app, allZ_one] at this
      exact (List.nodup_append.1 this).1
    rcases hat with h1 | ⟨h1, h2⟩
    · have : r'.res.all.Perm r.res.all := by
        show (r'.v.ownBlock.toList ++ r'.k.fd).Perm (r.v.ownBlock.toList ++ r.k.fd)
        rw [h1]; exact hk.append_left _
      exact this.nodup_iff.2 hn
    · show (r'.v.ownBlock.toList ++ r'.k.fd).Nodup
      rw [h1]
      simp only [Option.toList_some, List.singleton_append, List.nodup_cons]
      refine ⟨fun h => ?_, hk.nodup_iff.2 (List.nodup_append.1 hn).2.1⟩
      have hb : w.heap.size ∈ allZ ([r.res] ++ zs M (R.eraseIdx i) D) := by
        rw [allZ_app, allZ_one]; exact List.mem_append.2 (.inl (List.mem_append.2 (.inr (hk.mem_iff.1 h))))
      have := (MemZ.lt H1 _ hb).2
      omega
  · rw [List.mem_singleton] at hq; subst hq
    have := hok fun f => by show Moves w w' (StZ w0 S (zs M R D) f) (StZ w0 S (zs M (R.set i r') D) f); rw [hst, hst']; exact hm f
    show r'.ok w' _
    rw [← hst']; exact this
end
end AT

