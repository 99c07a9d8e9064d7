/- More steps: ways that meet, literals, rows read and written, slices of slices. -/
import Derived.Test.YtiedecncmihbeaaGreatAtE
set_option linter.unusedSimpArgs false
set_option linter.unusedVariables false
namespace AT
open Go Go.RowKit

theorem nle {a b : Nat} (h : Nat.ble a b = true) : a ≤ b := Nat.le_of_ble_eq_true h

def PT (P : Program) (E : TypeId) : Prop := ∀ w, (isAgg E).run P w = .ok false w ∧ (Go.sizeOf E).run P w = .ok 1 w

section
variable {P : Program} {Q : Exit → Act → World → Prop} {a : Act} {w : World} {w0 : Base} {n : Nat} {L : List (Nat × Value)} {K : Act → World → Prop}
variable {S : Nat → Prop} {M : List Blk} {R : List Row} {D : List DI} {I : List (Bool × MP)} {dst : Option Tmp} {d : Nat} {ty : TypeId} {pos : String} {af : Array Edge} {g : Option (Nat × Bool)}

theorem mid {c : Code} (Mid : Act → World → Prop) (h : c.wp P (Exit.then Mid Q) a w) (h2 : ∀ a w, Mid a w → Q .normal a w) : c.wp P Q a w :=
  Code.wp_mono (fun e a w q => by cases e <;> first | exact q | exact h2 a w q) h

theorem rq_build (hf : Fr a n L) {T : TypeId} {ps : List (Nat × Operand)} {qs : List (Nat × Value)} {cs : List Value} (hp0 : evp L ps = some qs) (hb : ∀ w, (Instr.build T qs.toArray).run P w = .ok (.agg cs.toArray) w) :
    (execOp a.eval ⟨dst, .build T ps.toArray, ty, pos, af, g⟩).run P w = .ok (.value (.agg cs.toArray)) w := by
  have e : (ps.toArray.map fun p => (p.1, a.eval p.2)) = qs.toArray := by rw [List.map_toArray, hf.evalp hp0]
  simp only [execOp]
  rw [show (ps.toArray.map fun x => match x with | (i, x) => (i, a.eval x)) = qs.toArray from e]
  simp [hb]

theorem Mem.rowWeak (H : Mem w0 S M R D I w) (i : Nat) {α : Type} [GoTy α] {fr : Bool} {E : TypeId} {A : Option Addr} {cap : Nat} {xs : List α} (hi : R[i]? = some ⟨.sh fr, E, A, cap, xs⟩) : Mem w0 S M (R.set i ⟨.sh false, E, A, cap, xs⟩) D I w := by
  refine H.reRow hi ⟨rfl, rfl, rfl, Nat.le_refl _, fun _ _ _ => rfl⟩ (.inl rfl) (List.Perm.refl _) fun hm => ?_
  obtain ⟨cells, ho, _, he⟩ := H.rowAt (List.mem_of_getElem? hi)
  exact ⟨cells, ho, trivial, fun j x hx => GoTy.mono (rep_weak (show GoTy.rep w (St w0 S M R D fr) _ x from he j x hx)) (hm false)⟩

theorem Mem.rowSh (H : Mem w0 S M R D I w) (i : Nat) {α : Type} [GoTy α] {Fs : List (List Nat)} {E : TypeId} {A : Option Addr} {cap : Nat} {xs : List α} (hi : R[i]? = some ⟨.ow Fs, E, A, cap, xs⟩) : Mem w0 S M (R.set i ⟨.sh true, E, A, cap, xs⟩) D I w := by
  have H1 := MemZ.perm H (zsR_out hi)
  refine MemZ.perm (MemZ.step (rs' := [Row.res ⟨.sh true, E, A, cap, xs⟩]) H1 (Chg.refl _ _) (fun b hb => .inl ?_) (fun b hb => .inl hb) ?_ (fun hm q hq => ?_)) (zsR_set _ hi).symm
  · rw [allZ_one] at hb ⊢
    have : b ∈ (Value.slice A xs.length cap).ownBlock.toList ++ [] := hb
    rw [List.append_nil] at this
    exact List.mem_append.2 (.inl this)
  · have h1 := MemZ.nd H1
    rw [allZ_app, allZ_one] at h1
    rw [allZ_one]
    show ((Value.slice A xs.length cap).ownBlock.toList ++ []).Nodup
    rw [List.append_nil]
    exact (List.nodup_append.1 (List.nodup_append.1 h1).1).1
  · rw [List.mem_singleton] at hq; subst hq
    have hmem := List.mem_of_getElem? hi
    obtain ⟨cells, ho, hf, he⟩ := H.rowAt hmem
    refine ⟨cells, ho, trivial, fun j x hx => ?_⟩
    have h1 := H.elRep hmem (List.getElem?_eq_some_iff.1 hx).1 hf (he j x hx)
    have h2 := hm true
    rw [← StZ_perm (zsR_out hi)] at h2
    exact GoTy.mono (show GoTy.rep w (StZ w0 S (zs M R D) true) _ x from h1) h2

theorem lrep_nil {α : Type} [GoTy α] {T : Nat → Prop} : lrep w T [.slice none 0 0] ([] : List α) := ⟨none, 0, rfl, Nat.le_refl _, by simp [maxLen], fun i x hx => by simp at hx⟩

/-! ### make -/
theorem made_part {z : Array Value} {m : Nat} (hz : z.size = m) (hm : 0 < m) (c i : Nat) (hi : i < c) : ((madeCells z (c * m)).toList.drop (i * m)).take m = z.toList := by
  have hle : i * m + m ≤ c * m := by
    have := Nat.mul_le_mul_right m (show i + 1 ≤ c from hi)
    rwa [Nat.succ_mul] at this
  apply List.ext_getElem?
  intro j
  by_cases hj : j < m
  · rw [List.getElem?_take_of_lt hj, List.getElem?_drop]
    have h1 : i * m + j < c * m := by omega
    have h2 : (i * m + j) % z.size = j := by rw [hz, Nat.mul_comm, Nat.mul_add_mod, Nat.mod_eq_of_lt hj]
    simp [madeCells, h1, h2]
    rw [getElem!_pos z j (by omega)]
    simp [show j < z.size by omega]
  · rw [List.getElem?_eq_none (by simp; omega), List.getElem?_eq_none (by simp; omega)]

theorem op_make (hf : Fr a n L) (H : Mem w0 S M R D I w) {α : Type} [GoTy α] {T E : TypeId} {z : Value} {bytes : Nat} (hT : P.underlying T = some (.slice E)) (hE : AI P E (GoTy.n α) z bytes) (hz : z.cells.size = GoTy.n α) (hby : bytes ≤ 128) {x y : Operand} {i : Int} {z0 : α} {xs : List α}
    (hx : ev L x = some (.int .i64 i)) (hy : ev L y = some (.int .i64 i)) (hz0 : GoTy.rep w (St w0 S M R D true) z.cells.toList z0) (hmk : mk z0 i = some xs) (hdn : d < n)
    (k : ∀ A c a' w', Fr a' n ((d, .slice A xs.length c) :: L) → Mem w0 S M (⟨.sh true, E, A, c, xs⟩ :: R) D I w' → K a' w') : Oper.wp P ⟨some d, .makeSlice T x y, ty, pos, af, g⟩ a w K Q := by
  unfold mk at hmk
  split at hmk
  case isFalse => cases hmk
  rename_i hi
  injection hmk with hmk
  subst hmk
  obtain ⟨inf, hinf, hpr⟩ := Option.map_eq_some_iff.1 hE
  simp only [Prod.mk.injEq] at hpr
  obtain ⟨hz1, hz2, hz3⟩ := hpr
  have hb : (inf.bytes : Int) * i ≤ 281474976710656 := by
    rw [hz3]
    have h1 : (bytes : Int) * i ≤ 128 * i := Int.mul_le_mul_of_nonneg_right (by omega) hi.1
    omega
  have hr := run_make (P := P) w T E inf z hT hinf hz1 .i64 .i64 i i hi.1 (Int.le_refl _) hb (by omega)
  have h1 : (execOp a.eval ⟨some d, .makeSlice T x y, ty, pos, af, g⟩).run P w = .ok (.value (.slice (some ⟨w.heap.size, 0, none⟩) i.toNat i.toNat)) (w.alloc (.cells (madeCells z.cells (i.toNat * inf.size)) E)) := by
    simp [execOp, hf.eval hx, hf.eval hy, hr]
  unfold Oper.wp
  rw [h1, Oper.upon_value]
  have H2 := H.newRow (.sh true) rfl E (List.replicate i.toNat z0) (madeCells z.cells (i.toNat * inf.size)).toList i.toNat (by simp) (by simp only [maxLen]; omega) (by simp [size_madeCells, hz2]) trivial (fun q e hq => by
    have hql : q < i.toNat := by have := (List.getElem?_eq_some_iff.1 hq).1; simpa using this
    have he : e = z0 := by
      rw [List.getElem?_replicate] at hq; simp [hql] at hq; exact hq.symm
    subst he
    show GoTy.rep _ _ (part' α _ q) _
    unfold part'
    rw [hz2, made_part hz (GoTy.pos (α := α)) _ _ hql]
    exact hz0)
  rw [Array.toArray_toList] at H2
  exact k _ _ _ _ (by have := hf.put hdn (.slice (some ⟨w.heap.size, 0, none⟩) i.toNat i.toNat); simpa using this) H2

/-! ### rows, by index -/
theorem row_cells {α : Type} [GoTy α] (H : Mem w0 S M R D I w) {j : Nat} {kd : Kd} {E : TypeId} {A : Option Addr} {cap : Nat} {xs : List α} (hj : R[j]? = some ⟨kd, E, A, cap, xs⟩) {i : Int} {e : α} (he : idx xs i = some e) :
    ∃ b, A = some ⟨b, 0, none⟩ ∧ ∃ cs, GoTy.rep w (St w0 S M R D kd.fresh) cs e ∧ ∀ q c, cs[q]? = some c → w.cell? ((⟨b, i.toNat * GoTy.n α, none⟩ : Addr).add q) = some c := by
  obtain ⟨h0, h1, h2⟩ := idx_lt he
  have hmem := List.mem_of_getElem? hj
  obtain ⟨cells, ho, hf, hel⟩ := H.rowAt hmem
  rcases ho.2 with ⟨hv, h3⟩ | ⟨b, cap', cur, hv, hb, hh, hnc, hcm, hcs, htk⟩
  · have : xs = [] := List.eq_nil_of_length_eq_zero h3
    subst this; simp at h2
  · simp only [Row.v, Value.slice.injEq] at hv
    refine ⟨b, hv.1, _, H.elRep hmem (List.getElem?_eq_some_iff.1 h2).1 hf (hel _ _ h2), fun q c hq => ?_⟩
    unfold part' at hq
    have hob : (Row.v ⟨kd, E, A, cap, xs⟩).ownBlock = some b := by unfold Row.v; rw [hv.1]; rfl
    have hlt : q < GoTy.n α := by
      have := (List.getElem?_eq_some_iff.1 hq).1
      simp only [List.length_take] at this; omega
    have h4 := ho.cells hob (i.toNat * GoTy.n α + q) c
    rw [add_lit, Nat.zero_add] at h4
    rw [add_lit]
    refine h4 ?_
    rw [List.getElem?_take_of_lt hlt, List.getElem?_drop] at hq
    exact hq

theorem op_iaddrR (hf : Fr a n L) (H : Mem w0 S M R D I w) {α : Type} [GoTy α] {T E E' : TypeId} (hT : P.underlying T = some (.slice E)) (hE : SZ P E (GoTy.n α)) (j : Nat) {kd : Kd} {A : Option Addr} {cap : Nat} {xs : List α} {x y : Operand} {k : IntKind} {i : Int} {e : α}
    (hx : ev L x = some (.slice A xs.length cap)) (hy : ev L y = some (.int k i)) (hj : R[j]? = some ⟨kd, E', A, cap, xs⟩) (he : idx xs i = some e) (hdn : d < n)
    (kk : ∀ b o cs a', Fr a' n ((d, .pointer (some ⟨b, o, none⟩)) :: L) → (A = some ⟨b, 0, none⟩ ∧ o = i.toNat * GoTy.n α) → GoTy.rep w (St w0 S M R D kd.fresh) cs e → (∀ q c, cs[q]? = some c → w.cell? ((⟨b, o, none⟩ : Addr).add q) = some c) → K a' w) :
    Oper.wp P ⟨some d, .indexAddr T x y, ty, pos, af, g⟩ a w K Q := by
  obtain ⟨h0, h1, h2⟩ := idx_lt he
  obtain ⟨b, rfl, cs, hr, hc⟩ := row_cells H hj he
  have hi := run_indexAt (P := P) (w := w) (cap := cap) hT hE h0 h1 (p := ⟨b, 0, none⟩) (k := k)
  rw [add_lit, Nat.zero_add] at hi
  exact op_q hf (v := .pointer (some ⟨b, i.toNat * GoTy.n α, none⟩)) (by simp [execOp, hf.eval hx, hf.eval hy, hi]) rfl hdn fun a' hf' => kk b _ cs a' hf' ⟨rfl, rfl⟩ hr hc

theorem run_storeRow {B b n' cap size : Nat} {E : TypeId} (o : Nat) : ∀ (vs : List Value) (w : World) (q : Nat) (cells : List Value), w.ownsRow B E size (.slice (some ⟨b, 0, none⟩) n' cap) n' cells → (∀ v ∈ vs, v.oneCell' = true) → o + q + vs.length ≤ cells.length →
    ∃ w', (storeCells ⟨b, o, none⟩ vs q).run P w = .ok () w' ∧ w'.ownsRow B E size (.slice (some ⟨b, 0, none⟩) n' cap) n' (cells.take (o + q) ++ vs ++ cells.drop (o + q + vs.length)) ∧ w.grownBy w' (some b) := by
  intro vs
  induction vs with
  | nil =>
    intro w q cells ho _ _
    exact ⟨w, by simp [storeCells], by simpa using ho, ⟨rfl, rfl, rfl, Nat.le_refl _, fun _ _ _ => rfl⟩⟩
  | cons v vs ih =>
    intro w q cells ho h1 hlen
    simp only [List.length_cons] at hlen
    have hcl : cells.length = n' * size := ho.1
    have hcell : w.cell? ⟨b, o + q, none⟩ = some (cells[o + q]'(by omega)) := by
      rw [ho.cellAt _ (by omega)]; exact List.getElem?_eq_getElem (by omega)
    have hst : (store ((⟨b, o, none⟩ : Addr).add q) v).run P w = .ok () (w.setCell ⟨b, o + q, none⟩ v) := by
      rw [add_lit, run_store P w _ v .plain (h1 v (by simp)), hcell]
      simp [ho.frozenAt]
    obtain ⟨ho1, hg1⟩ := ho.stored (o + q) v
    obtain ⟨w', hr, ho2, hg⟩ := ih _ (q + 1) _ ho1 (fun u hu => h1 u (by simp [hu])) (by simp; omega)
    refine ⟨w', by simp [storeCells, hst, hr], ?_, World.grownBy.trans hg1 hg⟩
    have e1 : (cells.set (o + q) v).take (o + (q + 1)) = cells.take (o + q) ++ [v] := by
      rw [show o + (q + 1) = (o + q) + 1 by omega, List.take_add_one, List.take_set_of_le (by omega)]
      simp [show o + q < cells.length by omega]
    rw [e1, List.drop_set_of_lt (by omega)] at ho2
    rw [List.length_cons, show o + q + (vs.length + 1) = o + (q + 1) + vs.length by omega]
    simpa using ho2

theorem splice_part {l vs : List Value} {p m off q : Nat} (hl : p * m + m ≤ l.length) (hv : off + vs.length ≤ m) :
    ((l.take (p * m + off) ++ vs ++ l.drop (p * m + off + vs.length)).drop (q * m)).take m =
      if q = p then ((l.drop (p * m)).take m).take off ++ vs ++ ((l.drop (p * m)).take m).drop (off + vs.length) else (l.drop (q * m)).take m := by
  apply List.ext_getElem?
  intro j
  by_cases hj : j < m
  · rw [List.getElem?_take_of_lt hj, List.getElem?_drop]
    have hlen1 : (l.take (p * m + off)).length = p * m + off := by rw [List.length_take]; omega
    by_cases hq : q = p
    · subst hq
      rw [if_pos rfl, List.append_assoc, List.append_assoc, List.getElem?_append, List.getElem?_append, hlen1]
      have hlen2 : (((l.drop (q * m)).take m).take off).length = off := by simp; omega
      rw [List.getElem?_append, List.getElem?_append, hlen2]
      by_cases h1 : j < off
      · rw [if_pos (by omega), if_pos h1, List.getElem?_take_of_lt (by omega), List.getElem?_take_of_lt h1, List.getElem?_take_of_lt hj, List.getElem?_drop]
      · rw [if_neg (by omega), if_neg h1]
        by_cases h2 : j < off + vs.length
        · rw [if_pos (by omega), if_pos (by omega)]
          congr 1; omega
        · rw [if_neg (by omega), if_neg (by omega), List.getElem?_drop, List.getElem?_drop, List.getElem?_take_of_lt (by omega), List.getElem?_drop]
          congr 1; omega
    · rw [if_neg hq, List.getElem?_take_of_lt hj, List.getElem?_drop, List.append_assoc, List.getElem?_append, List.getElem?_append, hlen1]
      rcases Nat.lt_or_gt_of_ne hq with h | h
      · have h1 : q * m + m ≤ p * m := by
          have := Nat.mul_le_mul_right m (show q + 1 ≤ p from h)
          rwa [Nat.succ_mul] at this
        rw [if_pos (by omega), List.getElem?_take_of_lt (by omega)]
      · have h1 : p * m + m ≤ q * m := by
          have := Nat.mul_le_mul_right m (show p + 1 ≤ q from h)
          rwa [Nat.succ_mul] at this
        rw [if_neg (by omega), if_neg (by omega), List.getElem?_drop]
        congr 1; omega
  · rw [List.getElem?_eq_none (by simp; omega)]
    split
    · rw [List.getElem?_eq_none (by simp; omega)]
    · rw [List.getElem?_eq_none (by simp; omega)]

theorem run_store {α : Type} [GoTy α] {T : TypeId} {m : Nat} (hT : SZ P T m) (hf : Fr a n L) {E : TypeId} {A : Option Addr} {cap : Nat} {xs : List α} {x y : Operand} {b o off : Nat} {i : Int} {e : α} {v : Value} {vs cells : List Value}
    (hx : ev L x = some (.pointer (some ⟨b, o + off, none⟩))) (hy : ev L y = some v) (hv : v.cells = vs.toArray) (h1 : (vs.all Value.oneCell') = true) (hm : vs.length = m) (hoff : off + m ≤ GoTy.n α)
    (hA : A = some ⟨b, 0, none⟩ ∧ o = i.toNat * GoTy.n α) (he : idx xs i = some e) (ho : w.ownsRow 0 E (GoTy.n α) (.slice A xs.length cap) xs.length cells) (e' : α) :
    ∃ w' cells', (execOp a.eval ⟨none, .store T x y, ty, pos, af, g⟩).run P w = .ok .skip w' ∧ w.grownBy w' (Value.slice A xs.length cap).ownBlock ∧ w'.ownsRow 0 E (GoTy.n α) (.slice A (xs.set i.toNat e').length cap) (xs.set i.toNat e').length cells' ∧
      ∀ q, part' α cells' q = if q = i.toNat then (part' α cells i.toNat).take off ++ vs ++ (part' α cells i.toNat).drop (off + vs.length) else part' α cells q := by
  obtain ⟨rfl, rfl⟩ := hA
  obtain ⟨h0, hlt, hg⟩ := idx_lt he
  have hT' : ∀ w, (Go.sizeOf T).run P w = .ok m w := hT
  have hcl : cells.length = xs.length * GoTy.n α := ho.1
  have hle : i.toNat * GoTy.n α + GoTy.n α ≤ cells.length := by
    rw [hcl]
    have := Nat.mul_le_mul_right (GoTy.n α) (show i.toNat + 1 ≤ xs.length by omega)
    rwa [Nat.succ_mul] at this
  obtain ⟨w', hr, ho2, hg2⟩ := run_storeRow (P := P) (i.toNat * GoTy.n α + off) vs w 0 cells ho (by simpa using h1) (by omega)
  refine ⟨w', _, ?_, hg2, by rw [List.length_set]; exact ho2, fun q => ?_⟩
  · simp [execOp, Instr.storeAt, Instr.sureAddr, storeVar, hf.eval hx, hf.eval hy, hv, hT', hm, hr]
  · unfold part'
    rw [Nat.add_zero]
    exact splice_part hle (by omega)

theorem sub_flat : ∀ {l l' : List (List Nat)}, l'.Sublist l → (List.flatten l').Sublist (List.flatten l)
  | _, _, .slnil => .slnil
  | _, _, .cons x h => by rw [List.flatten_cons]; exact (sub_flat h).trans (List.sublist_append_right _ _)
  | _, _, .cons_cons x h => by rw [List.flatten_cons, List.flatten_cons]; exact (List.Sublist.refl _).append (sub_flat h)
theorem getElem?_set' {β : Type} {l : List β} {i q : Nat} {x z : β} (h : (l.set i x)[q]? = some z) : (q = i ∧ z = x) ∨ (q ≠ i ∧ l[q]? = some z) := by
  rw [List.getElem?_set] at h
  by_cases hq : i = q
  · rw [if_pos hq] at h
    split at h
    · exact .inl ⟨hq.symm, (Option.some.inj h).symm⟩
    · cases h
  · rw [if_neg hq] at h; exact .inr ⟨Ne.symm hq, h⟩

theorem op_storeR (hf : Fr a n L) (H : Mem w0 S M R D I w) {α : Type} [GoTy α] {T : TypeId} {m : Nat} (hT : SZ P T m) (j : Nat) {kd : Kd} {E : TypeId} {A : Option Addr} {cap : Nat} {xs : List α} {x y : Operand} {b o off : Nat} {i : Int} {e e' : α} {v : Value} {vs : List Value}
    (hx : ev L x = some (.pointer (some ⟨b, o + off, none⟩))) (hy : ev L y = some v) (hv : v.cells = vs.toArray) (h1 : (vs.all Value.oneCell') = true) (hm : vs.length = m) (hoff : off + m ≤ GoTy.n α) (hj : R[j]? = some ⟨kd, E, A, cap, xs⟩)
    (hA : A = some ⟨b, 0, none⟩ ∧ o = i.toNat * GoTy.n α) (he : idx xs i = some e) (hnew : ∀ cs, kd.holds w (St w0 S M R D kd.fresh) i.toNat cs e → kd.holds w (St w0 S M R D kd.fresh) i.toNat (cs.take off ++ vs ++ cs.drop (off + vs.length)) e')
    (k : ∀ w', Mem w0 S M (R.set j ⟨kd, E, A, cap, xs.set i.toNat e'⟩) D I w' → K a w') : Oper.wp P ⟨none, .store T x y, ty, pos, af, g⟩ a w K Q := by
  have hmem := List.mem_of_getElem? hj
  obtain ⟨cells, ho, hfit, hel⟩ := H.rowAt hmem
  obtain ⟨w', cells', hr, hg, ho2, hpt⟩ := run_store (ty := ty) (pos := pos) (af := af) (g := g) hT hf hx hy hv h1 hm hoff hA he ho e'
  unfold Oper.wp
  rw [hr, Oper.upon_skip]
  have hown : Same w w' kd.fd := fun c hc => by
    have hp := zsR_out (M := M) (D := D) hj
    have h3 := MemZ.nd (MemZ.perm H hp)
    rw [allZ_app, allZ_one] at h3
    have h4 : (Value.slice A xs.length cap).ownBlock.toList ++ kd.fd = (Row.res ⟨kd, E, A, cap, xs⟩).all := rfl
    have h5 := (List.nodup_append.1 h3).1
    rw [← h4] at h5
    refine hg.block c (MemZ.lt H c (List.mem_flatMap.2 ⟨_, row_mem hmem, List.mem_append.2 (.inr hc)⟩)).2 fun e => ?_
    exact (List.nodup_append.1 h5).2.2 c (by rw [← e]; simp) c hc rfl
  refine k w' (H.reRow hj hg (.inl (by show Value.ownBlock (.slice A (xs.set i.toNat e').length cap) = _; rw [List.length_set]; rfl)) (List.Perm.refl _) fun hmv => ⟨cells', ho2, by show kd.fits (xs.set _ _).length; rw [List.length_set]; exact hfit, fun q z hz => ?_⟩)
  rw [hpt]
  rcases getElem?_set' hz with ⟨hq, hz⟩ | ⟨hq, hz⟩
  · rw [if_pos hq, hq, hz]
    exact Kd.holds_mono (hnew _ (hel _ _ (idx_lt he).2.2)) hown (hmv _)
  · rw [if_neg hq]
    exact Kd.holds_mono (hel _ _ hz) hown (hmv _)

theorem op_storeO {R : List Row} {D : List DI} (hf : Fr a n L) {α : Type} [GoTy α] {T : TypeId} {m : Nat} {Fs : List (List Nat)} {F : List Nat} {E : TypeId} {A : Option Addr} {cap : Nat} {xs : List α} {vs : List Value} {e' : α}
    (H : Mem w0 S M (⟨.ow Fs, E, A, cap, xs⟩ :: R) (⟨F, MP.own F vs e'⟩ :: D) I w) (hT : SZ P T m) {x y : Operand} {b o : Nat} {i : Int} {e : α} {v : Value}
    (hx : ev L x = some (.pointer (some ⟨b, o + 0, none⟩))) (hy : ev L y = some v) (hv : v.cells = vs.toArray) (h1 : (vs.all Value.oneCell') = true) (hm : vs.length = m) (hmn : m = GoTy.n α)
    (hA : A = some ⟨b, 0, none⟩ ∧ o = i.toNat * GoTy.n α) (he : idx xs i = some e)
    (k : ∀ w', Mem w0 S M (⟨.ow (Fs.set i.toNat F), E, A, cap, xs.set i.toNat e'⟩ :: R) D I w' → K a w') : Oper.wp P ⟨none, .store T x y, ty, pos, af, g⟩ a w K Q := by
  obtain ⟨cells, ho, hfit, hel⟩ := H.rowAt (r := ⟨.ow Fs, E, A, cap, xs⟩) (by simp)
  have hfl : Fs.length = xs.length := hfit
  have hd := (H.diAt (d := ⟨F, MP.own F vs e'⟩) (by simp)).1
  obtain ⟨w', cells', hr, hg, ho2, hpt⟩ := run_store (ty := ty) (pos := pos) (af := af) (g := g) hT hf hx hy hv h1 hm (by omega) hA he ho e'
  unfold Oper.wp
  rw [hr, Oper.upon_skip]
  refine k w' ?_
  have hp : (zs M (⟨.ow Fs, E, A, cap, xs⟩ :: R) (⟨F, MP.own F vs e'⟩ :: D)).Perm ([Row.res ⟨.ow Fs, E, A, cap, xs⟩, DI.res ⟨F, MP.own F vs e'⟩] ++ AT.zs M R D) := (zsR_cons _).trans ((zsD_cons _).append_left [_])
  have H1 := MemZ.perm H hp
  have hnd := MemZ.nd H1
  rw [allZ_app, allZ_two] at hnd
  have hnd' := (List.nodup_append.1 hnd).1
  have e0 : (Row.res ⟨.ow Fs, E, A, cap, xs⟩).all = (Value.slice A xs.length cap).ownBlock.toList ++ List.flatten Fs := rfl
  have e1 : (DI.res ⟨F, MP.own F vs e'⟩).all = F := rfl
  have e2 : (Row.res ⟨.ow (Fs.set i.toNat F), E, A, cap, xs.set i.toNat e'⟩).all = (Value.slice A xs.length cap).ownBlock.toList ++ List.flatten (Fs.set i.toNat F) := by
    show (Value.slice A (xs.set i.toNat e').length cap).ownBlock.toList ++ _ = _
    rw [List.length_set]; rfl
  rw [e0, e1] at hnd'
  have hi : i.toNat < Fs.length := by obtain ⟨h0, h1, _⟩ := idx_lt he; omega
  have hperm : (List.flatten (Fs.set i.toNat F)).Perm (F ++ List.flatten (Fs.eraseIdx i.toNat)) := (perm_set F (List.getElem?_eq_getElem hi)).flatten
  have hperm2 : (List.flatten Fs).Perm (Fs[i.toNat] ++ List.flatten (Fs.eraseIdx i.toNat)) := (perm_out (List.getElem?_eq_getElem hi)).flatten
  have hlt : ∀ b ∈ (Value.slice A xs.length cap).ownBlock.toList ++ List.flatten Fs ++ F, b < w.heap.size := fun b hb => (MemZ.lt H1 b (by rw [allZ_app, allZ_two, e0, e1]; exact List.mem_append.2 (.inl hb))).2
  refine MemZ.perm (MemZ.step (rs' := [Row.res ⟨.ow (Fs.set i.toNat F), E, A, cap, xs.set i.toNat e'⟩]) H1 ⟨hg.os, hg.tape, hg.output, hg.size, fun b hb hx => hg.block b hb fun e => hx ?_⟩ (fun b hb => .inl ?_) (fun b hb => .inl ?_) ?_ (fun hm q hq => ?_)) (zsR_cons _).symm
  · rw [fmZ_two]; exact List.mem_append.2 (.inl (by show b ∈ (Value.slice A xs.length cap).ownBlock.toList; rw [← e]; simp))
  · rw [allZ_one, e2] at hb
    rw [allZ_two, e0, e1]
    rcases List.mem_append.1 hb with h | h
    · exact List.mem_append.2 (.inl (List.mem_append.2 (.inl h)))
    · rcases List.mem_append.1 (hperm.mem_iff.1 h) with h | h
      · exact List.mem_append.2 (.inr h)
      · exact List.mem_append.2 (.inl (List.mem_append.2 (.inr (hperm2.mem_iff.2 (List.mem_append.2 (.inr h))))))
  · rw [fmZ_one] at hb; rw [fmZ_two]
    refine List.mem_append.2 (.inl ?_)
    have h3 : b ∈ (Value.slice A (xs.set i.toNat e').length cap).ownBlock.toList := hb
    rw [List.length_set] at h3; exact h3
  · rw [allZ_one, e2]
    refine (hperm.append_left _).nodup_iff.2 ?_
    have h3 : ((Value.slice A xs.length cap).ownBlock.toList ++ (F ++ List.flatten (Fs.eraseIdx i.toNat))).Perm ((Value.slice A xs.length cap).ownBlock.toList ++ List.flatten (Fs.eraseIdx i.toNat) ++ F) := by
      rw [List.append_assoc]; exact List.perm_append_comm.append_left _
    refine h3.nodup_iff.2 (List.Sublist.nodup ?_ hnd')
    refine List.Sublist.append ((List.Sublist.refl _).append ?_) (List.Sublist.refl _)
    exact sub_flat (List.eraseIdx_sublist Fs i.toNat)
  · rw [List.mem_singleton] at hq; subst hq
    have hsame : ∀ b, b ∈ List.flatten Fs ++ F → w'.heap[b]? = w.heap[b]? := fun b hb => by
      refine hg.block b (hlt b ?_) fun e => ?_
      · rw [List.append_assoc]; exact List.mem_append.2 (.inr hb)
      · rw [List.append_assoc] at hnd'
        exact (List.nodup_append.1 hnd').2.2 b (by rw [← e]; simp) b hb rfl
    refine ⟨cells', ho2, by simp only [Kd.fits, List.length_set]; exact hfl, fun q z hz Fi hFi => ?_⟩
    rw [hpt]
    rcases getElem?_set' hz with ⟨hq, hz⟩ | ⟨hq, hz⟩
    · rw [if_pos hq, hz]
      rcases getElem?_set' hFi with ⟨_, hFi⟩ | ⟨h, _⟩
      · have hlen : (part' α cells i.toNat).length = GoTy.n α := by
          obtain ⟨Fj, hFj⟩ := get_fs hfl (idx_lt he).2.2
          exact GoTy.len (GoTy.own_rep (hel _ _ (idx_lt he).2.2 Fj hFj))
        rw [hFi, List.take_zero, List.nil_append, Nat.zero_add, List.drop_eq_nil_of_le (by omega), List.append_nil]
        exact GoTy.own_mono hd fun b hb => hsame b (List.mem_append.2 (.inr hb))
      · exact absurd hq h
    · rw [if_neg hq]
      rcases getElem?_set' hFi with ⟨h, _⟩ | ⟨_, hFi⟩
      · exact absurd h hq
      · exact GoTy.own_mono (hel q z hz Fi hFi) fun b hb => hsame b (List.mem_append.2 (.inl (mem_fs hFi hb)))

theorem st_full {α : Type} [GoTy α] {T : Nat → Prop} {vs : List Value} {e e' : α} (hv : GoTy.rep w T vs e') : ∀ cs, GoTy.rep w T cs e → GoTy.rep w T (cs.take 0 ++ vs ++ cs.drop (0 + vs.length)) e' := by
  intro cs hc
  rw [List.take_zero, List.nil_append, Nat.zero_add, List.drop_eq_nil_of_le (by rw [GoTy.len hc, GoTy.len hv]; exact Nat.le_refl _), List.append_nil]
  exact hv

theorem op_sliceI (hf : Fr a n L) (H : Mem w0 S M R D I w) {α : Type} [GoTy α] {T E : TypeId} (hT : P.underlying T = some (.slice E)) (hE : SZ P E (GoTy.n α)) {x : Operand} {lo hi : Option Operand} {A : Option Addr} {len cap : Nat} {i j : Int} {xs ys : List α} {f : Bool} (q : Nat)
    (hx : ev L x = some (.slice A len cap)) (hlo : match lo with | some o => ev L o = some (.int .i64 i) | none => i = 0) (hhi : match hi with | some o => ev L o = some (.int .i64 j) | none => j = len)
    (hq : I[q]? = some (f, MP.val [.slice A len cap] xs)) (hs : sub xs i j = some ys) (hdn : d < n)
    (k : ∀ A' c' a', Fr a' n ((d, .slice A' ys.length c') :: L) → Mem w0 S M R D ((f, MP.val [.slice A' ys.length c'] ys) :: I) w → K a' w) : Oper.wp P ⟨some d, .slice T x lo hi none, ty, pos, af, g⟩ a w K Q := by
  obtain ⟨A', cap', hcs, hlc, hcm, hel⟩ : lrep w (St w0 S M R D f) [.slice A len cap] xs := H.get q hq
  simp only [List.cons.injEq, Value.slice.injEq, and_true] at hcs
  obtain ⟨rfl, rfl, rfl⟩ := hcs
  unfold sub at hs
  split at hs
  case isFalse => cases hs
  rename_i hb
  obtain ⟨h0, h1, h2⟩ := hb
  injection hs with hs
  have hyl : ys.length = j.toNat - i.toNat := by rw [← hs]; simp; omega
  have hE' : ∀ w, (Go.sizeOf E).run P w = .ok (GoTy.n α) w := hE
  have hval : (execOp a.eval ⟨some d, .slice T x lo hi none, ty, pos, af, g⟩).run P w = .ok (.value (.slice (if cap = i.toNat then A else A.map (·.add (i.toNat * GoTy.n α))) ys.length (cap - i.toNat))) w := by
    have hj : (j.toNat : Int) = j := Int.toNat_of_nonneg (by omega)
    have hlo' : (lo.map a.eval) = none ∧ i = 0 ∨ (lo.map a.eval) = some (.int .i64 i) := by
      cases lo with
      | none => exact .inl ⟨rfl, hlo⟩
      | some o => exact .inr (by simp [hf.eval hlo])
    have hhi' : (hi.map a.eval) = none ∧ j = xs.length ∨ (hi.map a.eval) = some (.int .i64 j) := by
      cases hi with
      | none => exact .inl ⟨rfl, hhi⟩
      | some o => exact .inr (by simp [hf.eval hhi])
    have hsl : (Instr.sliceAt T (.slice A xs.length cap) (lo.map a.eval) (hi.map a.eval) none).run P w = .ok (.slice (if cap = i.toNat then A else A.map (·.add (i.toNat * GoTy.n α))) ys.length (cap - i.toNat)) w := by
      rw [hyl]
      have hsb : (Instr.sliceBounds true xs.length cap (lo.map a.eval) (hi.map a.eval) none).run P w = .ok (i.toNat, j.toNat, cap) w := by
        rcases hlo' with ⟨e1, rfl⟩ | e1 <;> rcases hhi' with ⟨e2, e3⟩ | e2 <;> rw [e1, e2]
        · subst e3; simp [Instr.sliceBounds]
        · simp [Instr.sliceBounds, Instr.sliceBound, asIntOf, show 0 ≤ j by omega, show j ≤ cap by omega]
        · subst e3; simp [Instr.sliceBounds, Instr.sliceBound, asIntOf, h0, h1]
        · simp [Instr.sliceBounds, Instr.sliceBound, asIntOf, h0, show 0 ≤ j by omega, show j ≤ cap by omega, hj, h1]
      simp [Instr.sliceAt, Instr.slice, run_underlying hT, hsb, hE']
    simp [execOp, hf.eval hx, hsl]
  refine op_q hf hval rfl hdn fun a' hf' => k _ _ a' hf' (H.push _ ?_)
  refine ⟨_, _, rfl, by omega, by omega, fun t z hz => ?_⟩
  have hz' : xs[i.toNat + t]? = some z := by
    rw [← hs, List.getElem?_drop] at hz
    rw [List.getElem?_take] at hz
    split at hz
    · exact hz
    · cases hz
  obtain ⟨p, hp, hSp, cs, hc, hr⟩ := hel _ _ hz'
  have hlt := (List.getElem?_eq_some_iff.1 hz').1
  rw [if_neg (by omega), hp]
  refine ⟨p.add (i.toNat * GoTy.n α), rfl, by rw [block_add]; exact hSp, cs, fun u c hu => ?_, hr⟩
  rw [add_add, ← Nat.add_assoc, ← Nat.add_mul]
  exact hc u c hu
end
end AT

