/- Owned data in a walk: made, handed over by callees, handed to callees that write it. -/
import Derived.Test.YtiedecncmihbeaaGreatAtY
set_option linter.unusedSimpArgs false
set_option linter.unusedVariables false
namespace AT
open Go Go.RowKit

section
variable {P : Program} {Q : Exit → Act → World → Prop} {a : Act} {w w' w1 : World} {n : Nat} {L : List (Nat × Value)} {dst : Option Tmp} {ty : TypeId} {pos : String} {af : Array Edge} {g : Option (Nat × Bool)} {K : Act → World → Prop} {d : Nat}
variable {w0 : Base} {S : Nat → Prop} {M : List Blk} {R : List Row} {D : List DI} {I : List (Bool × MP)}

theorem op_makeO (hf : Fr a n L) (H : Mem w0 S M R D I w) {α : Type} [GoTy α] {T E : TypeId} {z : Value} {bytes : Nat} (hT : P.underlying T = some (.slice E)) (hE : AI P E (GoTy.n α) z bytes) (hz : z.cells.size = GoTy.n α) (hby : bytes ≤ 128) {x y : Operand} {i : Int} {z0 : α} {xs : List α}
    (hx : ev L x = some (.int .i64 i)) (hy : ev L y = some (.int .i64 i)) (hz0 : ∀ w, GoTy.own w [] z.cells.toList z0) (hmk : mk z0 i = some xs) (hdn : d < n)
    (k : ∀ A c Fs a' w', Fr a' n ((d, .slice A xs.length c) :: L) → Mem w0 S M (⟨.ow Fs, E, A, c, xs⟩ :: R) D I w' → K a' w') : Oper.wp P ⟨some d, .makeSlice T x y, ty, pos, af, g⟩ a w K Q := by
  unfold mk at hmk
  split at hmk
  case isFalse => cases hmk
  rename_i hi
  injection hmk with hmk
  subst hmk
  obtain ⟨inf, hinf, hpr⟩ := Option.map_eq_some_iff.1 hE
  simp only [Prod.mk.injEq] at hpr
  obtain ⟨hz1, hz2, hz3⟩ := hpr
  have hb : (inf.bytes : Int) * i ≤ 281474976710656 := by
    rw [hz3]
    have h1 : (bytes : Int) * i ≤ 128 * i := Int.mul_le_mul_of_nonneg_right (by omega) hi.1
    omega
  have hr := run_make (P := P) w T E inf z hT hinf hz1 .i64 .i64 i i hi.1 (Int.le_refl _) hb (by omega)
  have h1 : (execOp a.eval ⟨some d, .makeSlice T x y, ty, pos, af, g⟩).run P w = .ok (.value (.slice (some ⟨w.heap.size, 0, none⟩) i.toNat i.toNat)) (w.alloc (.cells (madeCells z.cells (i.toNat * inf.size)) E)) := by
    simp [execOp, hf.eval hx, hf.eval hy, hr]
  unfold Oper.wp
  rw [h1, Oper.upon_value]
  have H2 := H.newRow (.ow (List.replicate i.toNat [])) (flatten_nil _) E (List.replicate i.toNat z0) (madeCells z.cells (i.toNat * inf.size)).toList i.toNat (by simp) (by simp only [maxLen]; omega) (by simp [size_madeCells, hz2]) (by simp [Kd.fits]) (fun q e hq => by
    have hql : q < i.toNat := by have := (List.getElem?_eq_some_iff.1 hq).1; simpa using this
    have he : e = z0 := by
      rw [List.getElem?_replicate] at hq; simp [hql] at hq; exact hq.symm
    subst he
    intro Fi hFi
    have hFe : Fi = [] := by
      rw [List.getElem?_replicate] at hFi; simpa [hql] using hFi
    subst hFe
    show GoTy.own _ _ (part' α _ q) _
    unfold part'
    rw [hz2, made_part hz (GoTy.pos (α := α)) _ _ hql]
    exact hz0 _)
  rw [Array.toArray_toList] at H2
  exact k _ _ _ _ _ (by have := hf.put hdn (.slice (some ⟨w.heap.size, 0, none⟩) i.toNat i.toNat); simpa using this) H2

theorem ps0 : ∀ d ∈ ([] : List DI), d.p.pred w (· ∈ d.F) := fun _ h => by cases h
theorem ps1 {α : Type} [GoTy α] {F : List Nat} {cs : List Value} {x : α} {X : List DI} (h : GoTy.own w F cs x) (t : ∀ d ∈ X, d.p.pred w (· ∈ d.F)) : ∀ d ∈ ((⟨F, MP.own F cs x⟩ : DI) :: X), d.p.pred w (· ∈ d.F) := by
  intro d hd
  rcases List.mem_cons.1 hd with rfl | hd
  · exact ⟨h, fun b hb => hb⟩
  · exact t d hd

theorem Mem.arg (H : Mem ⟨w1, []⟩ S M R D I w) {p : MP} (h : p.pred w1 S) : Mem ⟨w1, []⟩ S M R D ((false, p) :: I) w := H.pushArg p h

theorem st_own {α : Type} [GoTy α] {Fs : List (List Nat)} {i off : Nat} {vs : List Value} {e e' : α} (h : ∀ F cs, GoTy.own w F cs e → GoTy.own w F (cs.take off ++ vs ++ cs.drop (off + vs.length)) e') {T : Nat → Prop} :
    ∀ cs, (Kd.ow Fs).holds w T i cs e → (Kd.ow Fs).holds w T i (cs.take off ++ vs ++ cs.drop (off + vs.length)) e' := fun cs hc Fi hFi => h Fi cs (hc Fi hFi)
end
end AT

