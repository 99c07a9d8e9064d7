/- A variable that is written through a pointer, and that owns its data before and after. -/
import Derived.Test.YtmokfdffnijbbaaGreatAtB2
set_option linter.unusedSimpArgs false
set_option linter.unusedVariables false
namespace AT
open Go Go.RowKit
section
variable {w w' w1 : World} {w0 : Base} {S : Nat → Prop} {M : List Blk} {R : List Row} {D : List DI} {I : List (Bool × MP)}
theorem Mem.startBO {α : Type} [GoTy α] (S : Nat → Prop) {b : Nat} {T : TypeId} {cs : List Value} {F : List Nat} {x : α} (h : w1.heap[b]? = some (.cells cs.toArray T (0, 0))) (hO : GoTy.own w1 F cs x) (hn : (b :: F).Nodup) :
    Mem ⟨w1, b :: F⟩ S [⟨b, T, cs⟩] [] [⟨F, MP.own F cs x⟩] [] w1 := by
  have hlt : b < w1.heap.size := by
    rcases Nat.lt_or_ge b w1.heap.size with h' | h'
    · exact h'
    · rw [Array.getElem?_eq_none h'] at h; cases h
  have ha : allZ (zs [⟨b, T, cs⟩] [] [⟨F, MP.own F cs x⟩]) = b :: F := by simp [allZ, zs, Res.all, Blk.res, DI.res]
  refine ⟨⟨rfl, rfl, rfl, Nat.le_refl _, fun _ _ => rfl⟩, fun c hc => ?_, by rw [ha]; exact hn, fun r hr => ?_, fun f hf => (by cases hf)⟩
  · rw [ha] at hc
    refine ⟨.inr hc, ?_⟩
    rcases List.mem_cons.1 hc with rfl | hc
    · exact hlt
    · exact GoTy.own_lt hO c hc
  · have : r = Blk.res ⟨b, T, cs⟩ ∨ r = DI.res ⟨F, MP.own F cs x⟩ := by simpa [zs] using hr
    rcases this with rfl | rfl
    · exact h
    · exact ⟨⟨hO, fun b hb => hb⟩, fun b hb => GoTy.own_lt hO b hb⟩
theorem Mem.wroteBO {α : Type} [GoTy α] {F F' : List Nat} {cs cs' : List Value} {x x' : α} (H : Mem w0 S M R (⟨F, MP.own F cs x⟩ :: D) I w) (i : Nat) {b : Nat} {T : TypeId} {c0 : List Value} (hi : M[i]? = some ⟨b, T, c0⟩) (hR : R.all Row.tightB = true) (hc : Chg w w' (b :: F))
    (hb : w'.heap[b]? = some (.cells cs'.toArray T (0, 0))) (ho : GoTy.own w' F' cs' x') (hbk : Back w w' F F') (hbF : b ∉ F') : Mem w0 S (M.set i ⟨b, T, cs'⟩) R (⟨F', MP.own F' cs' x'⟩ :: D) [] w' := by
  have hall : ∀ (m : Blk) (e : DI), allZ [m.res, e.res] = m.b :: e.F := fun m e => by simp [allZ, Res.all, Blk.res, DI.res]
  have hp : (zs M R (⟨F, MP.own F cs x⟩ :: D)).Perm ([Blk.res ⟨b, T, c0⟩, DI.res ⟨F, MP.own F cs x⟩] ++ zs (M.eraseIdx i) R D) :=
    (zsM_out hi).trans ((zsD_cons _).append_left [_])
  have hp' : (zs (M.set i ⟨b, T, cs'⟩) R (⟨F', MP.own F' cs' x'⟩ :: D)).Perm ([Blk.res ⟨b, T, cs'⟩, DI.res ⟨F', MP.own F' cs' x'⟩] ++ zs (M.eraseIdx i) R D) :=
    (zsM_set _ hi).trans ((zsD_cons _).append_left [_])
  have H1 := MemZ.perm H hp
  have hblt : b < w.heap.size := (MemZ.lt H1 b (by rw [allZ_app, hall]; simp)).2
  refine MemZ.perm (MemZ.turn (rs' := [Blk.res ⟨b, T, cs'⟩, DI.res ⟨F', MP.own F' cs' x'⟩]) H1 (by rw [hall]; exact hc) (fun c h => ?_) ?_ (zs_tight hR) (fun q hq => ?_)) hp'.symm
  · rw [hall] at h ⊢
    rcases List.mem_cons.1 h with rfl | h
    · exact .inl (List.mem_cons_self ..)
    · obtain ⟨h1, h2⟩ := hbk.2 c h
      exact h1.elim (fun h => .inr ⟨h, h2⟩) fun h => .inl (List.mem_cons_of_mem _ h)
  · rw [hall]
    exact List.nodup_cons.2 ⟨hbF, hbk.1⟩
  · have : q = Blk.res ⟨b, T, cs'⟩ ∨ q = DI.res ⟨F', MP.own F' cs' x'⟩ := by simpa using hq
    rcases this with rfl | rfl
    · exact hb
    · exact ⟨⟨ho, fun b h => h⟩, fun b h => (hbk.2 b h).2⟩
theorem Mem.endBO {F : List Nat} {d : DI} {b : Nat} {T : TypeId} {cs : List Value} (H : Mem ⟨w1, b :: F⟩ S M R (d :: D) I w) (i : Nat) (hi : M[i]? = some ⟨b, T, cs⟩) : Back w1 w F d.F ∧ b ∉ d.F := by
  have hall : ∀ (m : Blk) (e : DI), allZ [m.res, e.res] = m.b :: e.F := fun m e => by simp [allZ, Res.all, Blk.res, DI.res]
  have hp : (zs M R (d :: D)).Perm ([Blk.res ⟨b, T, cs⟩, d.res] ++ zs (M.eraseIdx i) R D) := (zsM_out hi).trans ((zsD_cons _).append_left [_])
  have H1 := MemZ.perm H hp
  have hnd := MemZ.nd H1
  rw [allZ_app, hall] at hnd
  obtain ⟨h1, h2⟩ := List.nodup_cons.1 (List.nodup_append.1 hnd).1
  refine ⟨⟨h2, fun c hc => ?_⟩, h1⟩
  obtain ⟨h3, h4⟩ := MemZ.lt H1 c (by rw [allZ_app, hall]; exact List.mem_append.2 (.inl (List.mem_cons_of_mem _ hc)))
  refine ⟨?_, h4⟩
  rcases h3 with h3 | h3
  · exact .inl h3
  · rcases List.mem_cons.1 h3 with e | h3
    · subst e; exact absurd hc h1
    · exact .inr h3
end
section
variable {P : Program} {l : List Oper} {S : World → Prop} {a : Act} {w : World} {B : List Nat} {fuel : Nat} {bs : List Bool}
end
section
variable {P : Program} {a : Act} {w : World} {n : Nat} {L : List (Nat × Value)} {dst : Option Tmp} {ty : TypeId} {pos : String} {af : Array Edge} {g : Option (Nat × Bool)}
end
end AT

namespace AT
open Go Go.RowKit
section
variable {w w' w1 : World} {w0 : Base} {S : Nat → Prop} {M : List Blk} {R : List Row} {D : List DI} {I : List (Bool × MP)}
def NF (b : Nat) (F : List Nat) : Nat → Prop := fun c => c ∉ List.cons b F
theorem Mem.boPerm {b : Nat} {T : TypeId} {cs : List Value} {d : DI} (i : Nat) (hi : M[i]? = some ⟨b, T, cs⟩) : (zs M R (d :: D)).Perm ([Blk.res ⟨b, T, cs⟩, d.res] ++ zs (M.eraseIdx i) R D) := (zsM_out hi).trans ((zsD_cons _).append_left [_])
theorem Mem.boAll {b : Nat} {T : TypeId} {cs : List Value} (d : DI) : allZ [Blk.res ⟨b, T, cs⟩, d.res] = b :: d.F := by simp [allZ, Res.all, Blk.res, DI.res]
theorem Mem.boNd {d : DI} {b : Nat} {T : TypeId} {cs : List Value} (H : Mem w0 S M R (d :: D) I w) (i : Nat) (hi : M[i]? = some ⟨b, T, cs⟩) : List.Nodup (List.cons b d.F) := by
  have hnd := MemZ.nd (MemZ.perm H (Mem.boPerm i hi))
  rw [allZ_app, Mem.boAll] at hnd
  exact (List.nodup_append.1 hnd).1
theorem Mem.boDisj {d : DI} {b : Nat} {T : TypeId} {cs : List Value} (H : Mem w0 S M R (d :: D) I w) (i : Nat) (hi : M[i]? = some ⟨b, T, cs⟩) {c : Nat} (hc : c ∈ allZ (zs (M.eraseIdx i) R D)) : NF b d.F c := by
  have hnd := MemZ.nd (MemZ.perm H (Mem.boPerm i hi))
  rw [allZ_app, Mem.boAll] at hnd
  exact fun h => (List.nodup_append.1 hnd).2.2 c h c hc rfl
theorem Mem.argN {G : List Nat} {d : DI} {b : Nat} {T : TypeId} {cs : List Value} (H : Mem ⟨w1, G⟩ S M R (d :: D) I w) (i : Nat) (hi : M[i]? = some ⟨b, T, cs⟩) (hS : ∀ c ∈ G, ¬ S c) {p : MP} (h : p.pred w1 S) : p.pred w (NF b d.F) := by
  refine p.mono h fun c hc hlt => ?_
  have hn : ¬ (⟨w1, G⟩ : Base).nw c := by
    rintro (h1 | h1)
    · simp only at h1; omega
    · exact hS c h1 hc
  refine ⟨fun hx => ?_, (MemZ.below H).block c hn⟩
  exact hn (MemZ.lt (MemZ.perm H (Mem.boPerm i hi)) c (by rw [allZ_app, Mem.boAll]; exact List.mem_append.2 (.inl hx))).1
theorem Mem.argNv {G : List Nat} {d : DI} {b : Nat} {T : TypeId} {cs : List Value} (H : Mem ⟨w1, G⟩ S M R (d :: D) I w) (i : Nat) (hi : M[i]? = some ⟨b, T, cs⟩) (hS : ∀ c ∈ G, ¬ S c) {α : Type} [GoTy α] {cv : List Value} {x : α} (h : GoTy.rep w1 S cv x) : GoTy.rep w (NF b d.F) cv x := Mem.argN H i hi hS (p := MP.val cv x) h
theorem Mem.boxN {d : DI} {b : Nat} {T : TypeId} {cs : List Value} (H : Mem w0 S M R (d :: D) I w) (i : Nat) (hi : M[i]? = some ⟨b, T, cs⟩) (j : Nat) {b2 : Nat} {T2 : TypeId} {cs2 : List Value} (hj : M[j]? = some ⟨b2, T2, cs2⟩) (hij : Nat.beq j i = false) : (MP.cells ⟨b2, 0, none⟩ cs2).pred w (NF b d.F) := by
  have hne : j ≠ i := fun e => by subst e; simp at hij
  have hm : (⟨b2, T2, cs2⟩ : Blk) ∈ M.eraseIdx i := List.mem_eraseIdx_iff_getElem?.2 ⟨j, hne, hj⟩
  have ht := H.boxTrue j hj
  refine ⟨Mem.boDisj H i hi (List.mem_flatMap.2 ⟨Blk.res ⟨b2, T2, cs2⟩, List.mem_append.2 (.inl (List.mem_map.2 ⟨_, hm, rfl⟩)), ?_⟩), ht.2.1, ht.2.2⟩
  simp [Res.all, Blk.res]
end
section
variable {P : Program} {Q : Exit → Act → World → Prop} {a : Act} {w : World} {n : Nat} {L : List (Nat × Value)} {ty : TypeId} {pos : String} {af : Array Edge} {g : Option (Nat × Bool)} {K : Act → World → Prop} {d : Nat}
variable {w0 : Base} {S : Nat → Prop} {M : List Blk} {R : List Row} {D : List DI} {I : List (Bool × MP)}
end
section
variable {w : World} {w0 : Base} {S : Nat → Prop} {M : List Blk} {R : List Row} {D : List DI} {I : List (Bool × MP)}
end
section
variable {w w1 : World} {w0 : Base} {S : Nat → Prop} {M : List Blk} {R : List Row} {D : List DI} {I : List (Bool × MP)}
def NO (F : List Nat) : Nat → Prop := fun c => c ∉ F
theorem Mem.argO {G : List Nat} {d : DI} (H : Mem ⟨w1, G⟩ S M R (d :: D) I w) (hS : ∀ c ∈ G, ¬ S c) {α : Type} [GoTy α] {cv : List Value} {x : α} (h : GoTy.rep w1 S cv x) : GoTy.rep w (NO d.F) cv x := by
  refine GoTy.mono h fun c hc hlt => ?_
  have hn : ¬ (⟨w1, G⟩ : Base).nw c := by
    rintro (h1 | h1)
    · simp only at h1; omega
    · exact hS c h1 hc
  exact ⟨fun hx => hn (H.diNd.2 c hx).1, (MemZ.below H).block c hn⟩
end
end AT
