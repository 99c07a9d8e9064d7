/- Owned data at a call's door; a callee that writes what it is handed; parts of an owned element. -/
import Derived.Test.YtiedecncmihbeaaGreatAtU
set_option linter.unusedSimpArgs false
set_option linter.unusedVariables false
namespace AT
open Go Go.RowKit

section
variable {w w' w1 : World} {w0 : Base} {S : Nat → Prop} {M : List Blk} {R : List Row} {D : List DI} {I : List (Bool × MP)}

def VO {α : Type} [GoTy α] (w : World) (F : List Nat) (v : Value) (x : α) : Prop := ∃ cs, GoTy.own w F cs x ∧ v = (bif GoTy.agg α then .agg cs.toArray else cs.headD undef)
def New (w w' : World) (F : List Nat) : Prop := F.Nodup ∧ ∀ b ∈ F, w.heap.size ≤ b ∧ b < w'.heap.size
def Back (w w' : World) (F F' : List Nat) : Prop := F'.Nodup ∧ ∀ b ∈ F', (w.heap.size ≤ b ∨ b ∈ F) ∧ b < w'.heap.size

theorem VO_list {α : Type} [GoTy α] {F : List Nat} {v : Value} {x : List α} (h : VO w F v x) : ∃ A c, v = .slice A x.length c ∧ lown w F [.slice A x.length c] x := by
  obtain ⟨cs, h, rfl⟩ := h
  obtain ⟨A, c, E, cells, Fs, rfl, h'⟩ := id h
  exact ⟨A, c, rfl, h⟩
theorem own_list {α : Type} [GoTy α] {F : List Nat} {cs : List Value} {x : List α} (h : GoTy.own w F cs x) : ∃ A c, cs = [.slice A x.length c] ∧ lown w F [.slice A x.length c] x := by
  obtain ⟨A, c, E, cells, Fs, rfl, h'⟩ := id h
  exact ⟨A, c, rfl, h⟩
theorem mko_list {α : Type} [GoTy α] {F : List Nat} {A : Option Addr} {m c : Nat} {x : List α} (h : lown w F [.slice A m c] x) : VO w F (.slice A m c) x := ⟨_, h, rfl⟩
theorem lown_nil {α : Type} [GoTy α] : lown w [] [.slice none 0 0] ([] : List α) := ⟨none, 0, 0, [], [], rfl, World.ownsRow_nil _ _ _ _, rfl, rfl, fun i x Fi hx => by simp at hx⟩

theorem Mem.ownNil (H : Mem w0 S M R D I w) (α : Type) [GoTy α] : Mem w0 S M R (⟨[], MP.own [] [.slice none 0 0] ([] : List α)⟩ :: D) I w :=
  H.recast (X := []) (Y := [⟨[], MP.own [] [.slice none 0 0] ([] : List α)⟩]) (by simp) fun _ d hd => by
    rw [List.mem_singleton] at hd; subst hd
    exact ⟨lown_nil, fun b hb => hb⟩

theorem Mem.diNd {d : DI} (H : Mem w0 S M R (d :: D) I w) : d.F.Nodup ∧ ∀ b ∈ d.F, w0.nw b ∧ b < w.heap.size := by
  have H1 := MemZ.perm H (zsD_cons d)
  have hall : allZ [d.res] = d.F := by rw [allZ_one]; rfl
  have h1 := MemZ.nd H1
  rw [allZ_app, hall] at h1
  exact ⟨(List.nodup_append.1 h1).1, fun b hb => MemZ.lt H1 b (by rw [allZ_app, hall]; exact List.mem_append.2 (.inl hb))⟩

theorem Mem.ends {X : List DI} (H : Mem ⟨w1, []⟩ S M R (X ++ D) I w) : New w1 w (X.flatMap DI.F) := by
  have H1 := MemZ.perm H (zsD_app X)
  have h1 := MemZ.nd H1
  rw [allZ_app, allZ_di] at h1
  refine ⟨(List.nodup_append.1 h1).1, fun b hb => ?_⟩
  obtain ⟨h2, h3⟩ := MemZ.lt H1 b (by rw [allZ_app, allZ_di]; exact List.mem_append.2 (.inl hb))
  rcases h2 with h2 | h2
  · exact ⟨h2, h3⟩
  · cases h2
theorem Mem.ownAt (H : Mem w0 S M R D I w) (j : Nat) {α : Type} [GoTy α] {F : List Nat} {cs : List Value} {x : α} (hj : D[j]? = some ⟨F, MP.own F cs x⟩) : GoTy.own w F cs x := (H.diAt (List.mem_of_getElem? hj)).1

theorem Mem.startG {α : Type} [GoTy α] {F : List Nat} {cs : List Value} {x : α} (S : Nat → Prop) (h : GoTy.own w1 F cs x) (hn : F.Nodup) : Mem ⟨w1, F⟩ S [] [] [⟨F, MP.own F cs x⟩] [] w1 := by
  refine ⟨⟨rfl, rfl, rfl, Nat.le_refl _, fun _ _ => rfl⟩, fun b hb => ?_, ?_, fun r hr => ?_, fun f hf => (by cases hf)⟩
  · have hb' : b ∈ F := by simpa [allZ, zs, Res.all, DI.res] using hb
    exact ⟨.inr hb', GoTy.own_lt h b hb'⟩
  · have : allZ (zs [] [] [⟨F, MP.own F cs x⟩]) = F := by simp [allZ, zs, Res.all, DI.res]
    rw [this]; exact hn
  · have : r = DI.res ⟨F, MP.own F cs x⟩ := by simpa [zs] using hr
    subst this
    exact ⟨⟨h, fun b hb => hb⟩, fun b hb => GoTy.own_lt h b hb⟩
theorem Mem.chg {F : List Nat} (H : Mem ⟨w1, F⟩ S M R D I w) : Chg w1 w F := by
  have hb := MemZ.below H
  refine ⟨hb.os, hb.tape, hb.output, hb.size, fun k hk hn => hb.block k fun h => ?_⟩
  rcases h with h | h
  · simp only at h; omega
  · exact hn h
theorem Mem.back {F : List Nat} {d : DI} (H : Mem ⟨w1, F⟩ S M R (d :: D) I w) : Back w1 w F d.F := ⟨H.diNd.1, fun b hb => H.diNd.2 b hb⟩

theorem Mem.wrote {α : Type} [GoTy α] {F F' : List Nat} {cs : List Value} {x x' : α} (H : Mem w0 S M R (⟨F, MP.own F cs x⟩ :: D) I w) (hR : R.all Row.tightB = true) (hc : Chg w w' F) (ho : GoTy.own w' F' cs x') (hb : Back w w' F F') :
    Mem w0 S M R (⟨F', MP.own F' cs x'⟩ :: D) [] w' := by
  have H1 := MemZ.perm H (zsD_cons _)
  have hall : ∀ e : DI, allZ [e.res] = e.F := fun e => by rw [allZ_one]; rfl
  refine MemZ.perm (MemZ.turn (rs := [DI.res ⟨F, MP.own F cs x⟩]) (rs' := [DI.res ⟨F', MP.own F' cs x'⟩]) H1 (by rw [hall]; exact hc) (fun b h => ?_) (by rw [hall]; exact hb.1) (zs_tight hR) (fun q hq => ?_)) (zsD_cons _).symm
  · rw [hall] at h ⊢
    obtain ⟨h1, h2⟩ := hb.2 b h
    exact h1.elim (fun h => .inr ⟨h, h2⟩) .inl
  · rw [List.mem_singleton] at hq; subst hq
    exact ⟨⟨ho, fun b h => h⟩, fun b h => (hb.2 b h).2⟩

structure Lens (α β : Type) [GoTy α] [GoTy β] (q : Nat) (get : α → β) (put : α → β → α) : Prop where
  at_ : ∀ {w : World} {F : List Nat} {cs : List Value} {e : α}, GoTy.own w F cs e → ∃ Fa F1 Fc c, F = Fa ++ (F1 ++ Fc) ∧ cs[q]? = some c ∧ GoTy.own w F1 [c] (get e) ∧
    ∀ (w' : World) (F1' : List Nat) (y : β), GoTy.own w' F1' [c] y → Same w w' Fa → Same w w' Fc → GoTy.own w' (Fa ++ (F1' ++ Fc)) cs (put e y)
theorem Lens.fst {α β γ : Type} [GoTy α] [GoTy β] [GoTy γ] {q : Nat} {get : α → γ} {put : α → γ → α} (h : Lens α γ q get put) : Lens (α × β) γ q (fun x => get x.1) (fun x y => (put x.1 y, x.2)) := by
  refine ⟨?_⟩
  rintro w F cs e ⟨c1, c2, F1, F2, rfl, rfl, h1, h2⟩
  obtain ⟨Fa, Fm, Fc, c, rfl, hq, hm, hp⟩ := h.at_ h1
  refine ⟨Fa, Fm, Fc ++ F2, c, by simp, ?_, hm, fun w' F1' y ho ha hc => ?_⟩
  · rw [List.getElem?_append_left (List.getElem?_eq_some_iff.1 hq).1]; exact hq
  · exact ⟨c1, c2, Fa ++ (F1' ++ Fc), F2, rfl, by simp, hp w' F1' y ho ha (hc.sub fun b hb => List.mem_append.2 (.inl hb)), GoTy.own_mono h2 (hc.sub fun b hb => List.mem_append.2 (.inr hb))⟩
theorem Lens.snd {α β γ : Type} [GoTy α] [GoTy β] [GoTy γ] {q : Nat} {get : β → γ} {put : β → γ → β} (h : Lens β γ q get put) : Lens (α × β) γ (GoTy.n α + q) (fun x => get x.2) (fun x y => (x.1, put x.2 y)) := by
  refine ⟨?_⟩
  rintro w F cs e ⟨c1, c2, F1, F2, rfl, rfl, h1, h2⟩
  obtain ⟨Fa, Fm, Fc, c, rfl, hq, hm, hp⟩ := h.at_ h2
  have hl : c1.length = GoTy.n α := GoTy.len (GoTy.own_rep h1)
  refine ⟨F1 ++ Fa, Fm, Fc, c, by simp, ?_, hm, fun w' F1' y ho ha hc => ?_⟩
  · rw [List.getElem?_append_right (by omega), hl, Nat.add_sub_cancel_left]; exact hq
  · exact ⟨c1, c2, F1, Fa ++ (F1' ++ Fc), rfl, by simp, GoTy.own_mono h1 (ha.sub fun b hb => List.mem_append.2 (.inl hb)), hp w' F1' y ho (ha.sub fun b hb => List.mem_append.2 (.inr hb)) hc⟩
theorem Lens.self {β : Type} [GoTy β] : Lens (List β) (List β) 0 (fun x => x) (fun _ y => y) := by
  refine ⟨?_⟩
  intro w F cs e h
  obtain ⟨A, c, rfl, h'⟩ := own_list h
  exact ⟨[], F, [], _, by simp, rfl, h', fun w' F1' y ho _ _ => by simpa using ho⟩

theorem Mem.elOwn {α : Type} [GoTy α] {Fs : List (List Nat)} {E : TypeId} {A : Option Addr} {cap : Nat} {xs : List α} {i : Int} {e : α} {b o : Nat} {cs : List Value} {T : Nat → Prop} (H : Mem w0 S M (⟨.ow Fs, E, A, cap, xs⟩ :: R) D I w) (he : idx xs i = some e)
    (hA : A = some ⟨b, 0, none⟩ ∧ o = i.toNat * GoTy.n α) (hr : GoTy.rep w T cs e) (hc : ∀ q c, cs[q]? = some c → w.cell? ((⟨b, o, none⟩ : Addr).add q) = some c) : ∃ Fi, Fs[i.toNat]? = some Fi ∧ GoTy.own w Fi cs e := by
  obtain ⟨rfl, rfl⟩ := hA
  obtain ⟨h0, h1, h2⟩ := idx_lt he
  obtain ⟨cells, ho, hfit, hel⟩ := H.rowAt (r := ⟨.ow Fs, E, some ⟨b, 0, none⟩, cap, xs⟩) (by simp)
  obtain ⟨Fi, hFi⟩ := get_fs (show Fs.length = xs.length from hfit) h2
  have h3 : GoTy.own w Fi (part' α cells i.toNat) e := hel _ _ h2 Fi hFi
  have hl : cs.length = GoTy.n α := GoTy.len hr
  have hl' : (part' α cells i.toNat).length = GoTy.n α := GoTy.len (GoTy.own_rep h3)
  have : cs = part' α cells i.toNat := by
    apply List.ext_getElem?
    intro q
    by_cases hq : q < GoTy.n α
    · have h4 := hc q _ (List.getElem?_eq_getElem (by omega))
      have h5 : (part' α cells i.toNat)[q]? = some ((part' α cells i.toNat)[q]'(by omega)) := List.getElem?_eq_getElem _
      have h6 := h5
      unfold part' at h5
      rw [List.getElem?_take_of_lt hq, List.getElem?_drop] at h5
      have h7 := ho.cells (g := b) rfl _ _ h5
      rw [add_lit, Nat.zero_add] at h7
      rw [add_lit, h7] at h4
      rw [h6, List.getElem?_eq_getElem (by omega), ← Option.some.inj h4]
      rfl
    · rw [List.getElem?_eq_none (by omega), List.getElem?_eq_none (by omega)]
  subst this
  exact ⟨Fi, hFi, h3⟩

theorem Mem.mutEl {α β : Type} [GoTy α] [GoTy β] {Fs : List (List Nat)} {E : TypeId} {A : Option Addr} {cap : Nat} {xs : List α} {i : Int} {e : α} {b o q : Nat} {cs : List Value} {T : Nat → Prop} {get : α → β} {put : α → β → α} {c : Value} (H : Mem w0 S M (⟨.ow Fs, E, A, cap, xs⟩ :: R) D I w)
    (hR : R.all Row.tightB = true) (he : idx xs i = some e) (hA : A = some ⟨b, 0, none⟩ ∧ o = i.toNat * GoTy.n α) (hr : GoTy.rep w T cs e) (hc : ∀ q c, cs[q]? = some c → w.cell? ((⟨b, o, none⟩ : Addr).add q) = some c) (hl : Lens α β q get put) (hcq : cs[q]? = some c) :
    ∃ F1, GoTy.own w F1 [c] (get e) ∧ F1.Nodup ∧ ∀ (w' : World) (F1' : List Nat) (y : β), Chg w w' F1 → GoTy.own w' F1' [c] y → Back w w' F1 F1' → ∃ Fs', Mem w0 S M (⟨.ow Fs', E, A, cap, xs.set i.toNat (put e y)⟩ :: R) D [] w' := by
  obtain ⟨Fi, hFi, hoe⟩ := H.elOwn he hA hr hc
  obtain ⟨Fa, F1, Fc, c', rfl, hq', ho1, hput⟩ := hl.at_ hoe
  obtain rfl : c = c' := Option.some.inj (hcq.symm.trans hq')
  obtain ⟨cells, ho, hfit, hel⟩ := H.rowAt (r := ⟨.ow Fs, E, A, cap, xs⟩) (by simp)
  have hfl : Fs.length = xs.length := hfit
  have H1 := MemZ.perm H (zsR_cons _)
  have hnd := MemZ.nd H1
  rw [allZ_app, allZ_one] at hnd
  have hnd' : ((Value.slice A xs.length cap).ownBlock.toList ++ List.flatten Fs).Nodup := (List.nodup_append.1 hnd).1
  have hlt : ∀ b ∈ (Value.slice A xs.length cap).ownBlock.toList ++ List.flatten Fs, b < w.heap.size := fun b hb => (MemZ.lt H1 b (by rw [allZ_app, allZ_one]; exact List.mem_append.2 (.inl hb))).2
  have hi : i.toNat < Fs.length := (List.getElem?_eq_some_iff.1 hFi).1
  have hpF : (List.flatten Fs).Perm ((Fa ++ (F1 ++ Fc)) ++ List.flatten (Fs.eraseIdx i.toNat)) := (perm_out hFi).flatten
  have hnd2 : ((Value.slice A xs.length cap).ownBlock.toList ++ ((Fa ++ (F1 ++ Fc)) ++ List.flatten (Fs.eraseIdx i.toNat))).Nodup := (hpF.append_left _).nodup_iff.1 hnd'
  have hF1 : F1.Nodup := by
    have := (List.nodup_append.1 (List.nodup_append.1 hnd2).2.1).1
    exact (List.nodup_append.1 (List.nodup_append.1 this).2.1).1
  refine ⟨F1, ho1, hF1, fun w' F1' y hch ho' hbk => ⟨Fs.set i.toNat (Fa ++ (F1' ++ Fc)), ?_⟩⟩
  have hpF' : (List.flatten (Fs.set i.toNat (Fa ++ (F1' ++ Fc)))).Perm ((Fa ++ (F1' ++ Fc)) ++ List.flatten (Fs.eraseIdx i.toNat)) := (perm_set _ hFi).flatten
  have hdis : ∀ x, x ∈ (Value.slice A xs.length cap).ownBlock.toList ∨ x ∈ Fa ∨ x ∈ Fc ∨ x ∈ List.flatten (Fs.eraseIdx i.toNat) → x ∉ F1 := by
    intro x hx h
    rw [List.nodup_append] at hnd2
    obtain ⟨-, h2, h3⟩ := hnd2
    rw [List.nodup_append] at h2
    obtain ⟨h4, -, h5⟩ := h2
    rw [List.nodup_append] at h4
    obtain ⟨-, h6, h7⟩ := h4
    rw [List.nodup_append] at h6
    rcases hx with hx | hx | hx | hx
    · exact h3 x hx x (by simp [h]) rfl
    · exact h7 x hx x (by simp [h]) rfl
    · exact h6.2.2 x h x hx rfl
    · exact h5 x (by simp [h]) x hx rfl
  have hmem : ∀ x, x ∈ (Value.slice A xs.length cap).ownBlock.toList ∨ x ∈ Fa ∨ x ∈ Fc ∨ x ∈ List.flatten (Fs.eraseIdx i.toNat) → x < w.heap.size := by
    intro x hx
    refine hlt x ?_
    rw [(hpF.append_left _).mem_iff]
    simp only [List.mem_append]
    rcases hx with hx | hx | hx | hx <;> simp [hx]
  have hsame : ∀ x, x ∈ (Value.slice A xs.length cap).ownBlock.toList ∨ x ∈ Fa ∨ x ∈ Fc ∨ x ∈ List.flatten (Fs.eraseIdx i.toNat) → w'.heap[x]? = w.heap[x]? := fun x hx => hch.block x (hmem x hx) (hdis x hx)
  have e2 : (Row.res ⟨.ow (Fs.set i.toNat (Fa ++ (F1' ++ Fc))), E, A, cap, xs.set i.toNat (put e y)⟩).all = (Value.slice A xs.length cap).ownBlock.toList ++ List.flatten (Fs.set i.toNat (Fa ++ (F1' ++ Fc))) := by
    show (Value.slice A (xs.set i.toNat (put e y)).length cap).ownBlock.toList ++ _ = _
    rw [List.length_set]; rfl
  have hback : ∀ x ∈ F1', x ∉ (Value.slice A xs.length cap).ownBlock.toList ∧ x ∉ Fa ∧ x ∉ Fc ∧ x ∉ List.flatten (Fs.eraseIdx i.toNat) := fun x hx => by
    have key : ∀ (_ : x ∈ (Value.slice A xs.length cap).ownBlock.toList ∨ x ∈ Fa ∨ x ∈ Fc ∨ x ∈ List.flatten (Fs.eraseIdx i.toNat)), False := fun h => by
      rcases (hbk.2 x hx).1 with h1 | h1
      · have := hmem x h; omega
      · exact hdis x h h1
    exact ⟨fun h => key (.inl h), fun h => key (.inr (.inl h)), fun h => key (.inr (.inr (.inl h))), fun h => key (.inr (.inr (.inr h)))⟩
  refine MemZ.perm (MemZ.turn (rs' := [Row.res ⟨.ow (Fs.set i.toNat (Fa ++ (F1' ++ Fc))), E, A, cap, xs.set i.toNat (put e y)⟩]) H1 (hch.sub fun x hx => ?_) (fun x hx => ?_) ?_ (zs_tight hR) (fun r hr => ?_)) (zsR_cons _).symm
  · rw [allZ_one]
    refine List.mem_append.2 (.inr (hpF.mem_iff.2 ?_)); simp [hx]
  · rw [allZ_one, e2] at hx
    rw [allZ_one]
    have hx' : x ∈ (Value.slice A xs.length cap).ownBlock.toList ++ ((Fa ++ (F1' ++ Fc)) ++ List.flatten (Fs.eraseIdx i.toNat)) := (hpF'.append_left _).mem_iff.1 hx
    have hto : x ∈ (Value.slice A xs.length cap).ownBlock.toList ++ ((Fa ++ (F1 ++ Fc)) ++ List.flatten (Fs.eraseIdx i.toNat)) ∨ w.heap.size ≤ x ∧ x < w'.heap.size := by
      simp only [List.mem_append] at hx' ⊢
      rcases hx' with h | (h | h | h) | h
      · exact .inl (.inl h)
      · exact .inl (.inr (.inl (.inl h)))
      · obtain ⟨h1, h2⟩ := hbk.2 x h
        rcases h1 with h1 | h1
        · exact .inr ⟨h1, h2⟩
        · exact .inl (.inr (.inl (.inr (.inl h1))))
      · exact .inl (.inr (.inl (.inr (.inr h))))
      · exact .inl (.inr (.inr h))
    exact hto.imp (fun h => (hpF.append_left _).mem_iff.2 h) id
  · rw [allZ_one, e2]
    refine (hpF'.append_left _).nodup_iff.2 ?_
    simp only [List.nodup_append, List.mem_append] at hnd2 ⊢
    obtain ⟨h1, ⟨⟨h2, ⟨h3, h4, h5⟩, h6⟩, h7, h8⟩, h9⟩ := hnd2
    refine ⟨h1, ⟨⟨h2, ⟨hbk.1, h4, fun x hx z hz e => (hback x hx).2.2.1 (e ▸ hz)⟩, fun x hx z hz e => ?_⟩, h7, fun x hx z hz e => ?_⟩, fun x hx z hz e => ?_⟩
    · rcases hz with hz | hz
      · exact (hback z hz).2.1 (e ▸ hx)
      · exact h6 x hx z (.inr hz) e
    · rcases hx with hx | hx | hx
      · exact h8 x (.inl hx) z hz e
      · exact (hback x hx).2.2.2 (e ▸ hz)
      · exact h8 x (.inr (.inr hx)) z hz e
    · rcases hz with (hz | hz | hz) | hz
      · exact h9 x hx z (.inl (.inl hz)) e
      · exact (hback z hz).1 (e ▸ hx)
      · exact h9 x hx z (.inl (.inr (.inr hz))) e
      · exact h9 x hx z (.inr hz) e
  · rw [List.mem_singleton] at hr; subst hr
    refine ⟨cells, ?_, by simp only [Kd.fits, List.length_set]; exact hfl, fun j z hz Fj hFj => ?_⟩
    · show w'.ownsRow 0 E (GoTy.n α) (.slice A (xs.set i.toNat (put e y)).length cap) (xs.set i.toNat (put e y)).length cells
      rw [List.length_set]
      exact ownsRow_same ho fun x hx => hsame x (.inl hx)
    · have hcs : part' α cells i.toNat = cs := by
        obtain ⟨rfl, rfl⟩ := hA
        apply List.ext_getElem?
        intro q
        have h3 : GoTy.own w _ (part' α cells i.toNat) e := hel _ _ (idx_lt he).2.2 _ hFi
        have hl1 : cs.length = GoTy.n α := GoTy.len hr
        have hl' : (part' α cells i.toNat).length = GoTy.n α := GoTy.len (GoTy.own_rep h3)
        by_cases hq : q < GoTy.n α
        · have h4 := hc q _ (List.getElem?_eq_getElem (by omega))
          have h5 : (part' α cells i.toNat)[q]? = some ((part' α cells i.toNat)[q]'(by omega)) := List.getElem?_eq_getElem _
          have h6 := h5
          unfold part' at h5
          rw [List.getElem?_take_of_lt hq, List.getElem?_drop] at h5
          have h7 := ho.cells (g := b) rfl _ _ h5
          rw [add_lit, Nat.zero_add] at h7
          rw [add_lit, h7] at h4
          rw [h6, List.getElem?_eq_getElem (l := cs) (by omega), ← Option.some.inj h4]
          rfl
        · rw [List.getElem?_eq_none (by omega), List.getElem?_eq_none (by omega)]
      rcases getElem?_set' hz with ⟨hj, hz⟩ | ⟨hj, hz⟩
      · rw [hz, hj, hcs]
        rcases getElem?_set' hFj with ⟨_, hFj⟩ | ⟨h, _⟩
        · rw [hFj]
          exact hput w' F1' y ho' (fun x hx => hsame x (.inr (.inl hx))) (fun x hx => hsame x (.inr (.inr (.inl hx))))
        · exact absurd hj h
      · rcases getElem?_set' hFj with ⟨h, _⟩ | ⟨_, hFj⟩
        · exact absurd h hj
        · refine GoTy.own_mono (hel j z hz Fj hFj) fun x hx => hsame x (.inr (.inr (.inr ?_)))
          refine List.mem_flatten.2 ⟨Fj, ?_, hx⟩
          rw [List.mem_eraseIdx_iff_getElem?]
          exact ⟨j, hj, hFj⟩
end
end AT

