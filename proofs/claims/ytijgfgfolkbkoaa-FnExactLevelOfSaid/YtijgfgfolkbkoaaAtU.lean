/- More steps: ways that meet, literals, rows read and written, slices of slices. -/
import Derived.Test.YtijgfgfolkbkoaaAtE
set_option linter.unusedSimpArgs false
set_option linter.unusedVariables false
namespace AT
open Go Go.RowKit

theorem nle {a b : Nat} (h : Nat.ble a b = true) : a ≤ b := Nat.le_of_ble_eq_true h

/-- What is asked of an array's one-cell element type. -/
def PT (P : Program) (E : TypeId) : Prop := ∀ w, (isAgg E).run P w = .ok false w ∧ (Go.sizeOf E).run P w = .ok 1 w

section
variable {P : Program} {Q : Exit → Act → World → Prop} {a : Act} {w w0 : World} {n : Nat} {L : List (Nat × Value)} {K : Act → World → Prop}
variable {S : Nat → Prop} {M : List Blk} {R : List Row} {I : List (Bool × MP)} {dst : Option Tmp} {d : Nat} {ty : TypeId} {pos : String} {af : Array Edge} {g : Option (Nat × Bool)}

theorem mid {c : Code} (Mid : Act → World → Prop) (h : c.wp P (Exit.then Mid Q) a w) (h2 : ∀ a w, Mid a w → Q .normal a w) : c.wp P Q a w :=
  Code.wp_mono (fun e a w q => by cases e <;> first | exact q | exact h2 a w q) h

theorem rq_build (hf : Fr a n L) {T : TypeId} {ps : List (Nat × Operand)} {qs : List (Nat × Value)} {cs : List Value} (hp0 : evp L ps = some qs) (hb : ∀ w, (Instr.build T qs.toArray).run P w = .ok (.agg cs.toArray) w) :
    (execOp a.eval ⟨dst, .build T ps.toArray, ty, pos, af, g⟩).run P w = .ok (.value (.agg cs.toArray)) w := by
  have e : (ps.toArray.map fun p => (p.1, a.eval p.2)) = qs.toArray := by rw [List.map_toArray, hf.evalp hp0]
  simp only [execOp]
  rw [show (ps.toArray.map fun x => match x with | (i, x) => (i, a.eval x)) = qs.toArray from e]
  simp [hb]

theorem rq_indexA (hf : Fr a n L) {T E : TypeId} {m : Nat} (hT : P.underlying T = some (.array m E)) (hE : PT P E) {x y : Operand} {cs : List Value} {l : List Int} {k : IntKind} {i e : Int} (hx : ev L x = some (.agg cs.toArray)) (hy : ev L y = some (.int k i))
    (hl : cs = l.map (Value.int .i64)) (hm : l.length = m) (he : idx l i = some e) : (execOp a.eval ⟨dst, .index T x y, ty, pos, af, g⟩).run P w = .ok (.value (.int .i64 e)) w := by
  obtain ⟨h0, h1, h2⟩ := idx_lt he
  have hE1 : ∀ w, (isAgg E).run P w = .ok false w := fun w => (hE w).1
  have hE2 : ∀ w, (Go.sizeOf E).run P w = .ok 1 w := fun w => (hE w).2
  have hp : (part E cs.toArray i.toNat).run P w = .ok (.int .i64 e) w := by
    subst hl
    simp [part, hE1, h2]
  have hr : (Instr.index T (.agg cs.toArray) (.int k i)).run P w = .ok (.int .i64 e) w := by
    simp [Instr.index, asIntOf, run_underlying hT, h0, ← hm, h1, hE2, hp]
  simp [execOp, hf.eval hx, hf.eval hy, hr]

theorem Mem.copyI (H : Mem w0 S M R I w) (i : Nat) {f f' : Bool} {p : MP} (hi : I[i]? = some (f, p)) (hff : f' = false ∨ f' = f) : Mem w0 S M R ((f', p) :: I) w :=
  H.push _ (p.mono (H.get i hi) fun b hb _ => by
    refine ⟨?_, rfl⟩
    rcases hff with rfl | rfl
    · rcases hb with ⟨rfl, h⟩ | h
      · exact .inl ⟨rfl, h⟩
      · exact .inr h
    · exact hb)

theorem Mem.rowWeak (H : Mem w0 S M R I w) (i : Nat) {α : Type} [GoTy α] {fr : Bool} {E : TypeId} {A : Option Addr} {cap : Nat} {xs : List α} (hi : R[i]? = some ⟨fr, E, A, cap, xs⟩) : Mem w0 S M (R.set i ⟨false, E, A, cap, xs⟩) I w := by
  have hown : ownB M (R.set i ⟨false, E, A, cap, xs⟩) = ownB M R := set_own _ hi rfl
  have hst : ∀ f, St w0 S M (R.set i ⟨false, E, A, cap, xs⟩) f = St w0 S M R f := fun f => by unfold St; rw [hown]
  refine ⟨H.below, H.blk, fun r hr => ?_, by rw [hown]; exact H.nd, fun f hf => by rw [hst]; exact H.imm f hf⟩
  rw [hst]
  rcases List.mem_or_eq_of_mem_set hr with h | rfl
  · exact H.row r h
  · obtain ⟨cells, ho, he⟩ := H.row _ (List.mem_of_getElem? hi)
    exact ⟨cells, ho, fun j x hx => rep_weak (he j x hx)⟩

theorem lrep_nil {α : Type} [GoTy α] {T : Nat → Prop} : lrep w T [.slice none 0 0] ([] : List α) := ⟨none, 0, rfl, Nat.le_refl _, by simp [maxLen], fun i x hx => by simp at hx⟩

/-! ### make -/
theorem made_part {z : Array Value} {m : Nat} (hz : z.size = m) (hm : 0 < m) (c i : Nat) (hi : i < c) : ((madeCells z (c * m)).toList.drop (i * m)).take m = z.toList := by
  have hle : i * m + m ≤ c * m := by
    have := Nat.mul_le_mul_right m (show i + 1 ≤ c from hi)
    rwa [Nat.succ_mul] at this
  apply List.ext_getElem?
  intro j
  by_cases hj : j < m
  · rw [List.getElem?_take_of_lt hj, List.getElem?_drop]
    have h1 : i * m + j < c * m := by omega
    have h2 : (i * m + j) % z.size = j := by rw [hz, Nat.mul_comm, Nat.mul_add_mod, Nat.mod_eq_of_lt hj]
    simp [madeCells, h1, h2]
    rw [getElem!_pos z j (by omega)]
    simp [show j < z.size by omega]
  · rw [List.getElem?_eq_none (by simp; omega), List.getElem?_eq_none (by simp; omega)]

theorem op_make (hf : Fr a n L) (H : Mem w0 S M R I w) {α : Type} [GoTy α] {T E : TypeId} {z : Value} {bytes : Nat} (hT : P.underlying T = some (.slice E)) (hE : AI P E (GoTy.n α) z bytes) (hz : z.cells.size = GoTy.n α) (hby : bytes ≤ 128) {x y : Operand} {i : Int} {z0 : α} {xs : List α}
    (hx : ev L x = some (.int .i64 i)) (hy : ev L y = some (.int .i64 i)) (hz0 : GoTy.rep w (St w0 S M R true) z.cells.toList z0) (hmk : mk z0 i = some xs) (hdn : d < n)
    (k : ∀ A c a' w', Fr a' n ((d, .slice A xs.length c) :: L) → Mem w0 S M (⟨true, E, A, c, xs⟩ :: R) I w' → K a' w') : Oper.wp P ⟨some d, .makeSlice T x y, ty, pos, af, g⟩ a w K Q := by
  unfold mk at hmk
  split at hmk
  case isFalse => cases hmk
  rename_i hi
  injection hmk with hmk
  subst hmk
  obtain ⟨inf, hinf, hpr⟩ := Option.map_eq_some_iff.1 hE
  simp only [Prod.mk.injEq] at hpr
  obtain ⟨hz1, hz2, hz3⟩ := hpr
  have hb : (inf.bytes : Int) * i ≤ 281474976710656 := by
    rw [hz3]
    have h1 : (bytes : Int) * i ≤ 128 * i := Int.mul_le_mul_of_nonneg_right (by omega) hi.1
    omega
  have hr := run_make (P := P) w T E inf z hT hinf hz1 .i64 .i64 i i hi.1 (Int.le_refl _) hb (by omega)
  have h1 : (execOp a.eval ⟨some d, .makeSlice T x y, ty, pos, af, g⟩).run P w = .ok (.value (.slice (some ⟨w.heap.size, 0, none⟩) i.toNat i.toNat)) (w.alloc (.cells (madeCells z.cells (i.toNat * inf.size)) E)) := by
    simp [execOp, hf.eval hx, hf.eval hy, hr]
  unfold Oper.wp
  rw [h1, Oper.upon_value]
  have H2 := H.newRow true E (List.replicate i.toNat z0) (madeCells z.cells (i.toNat * inf.size)).toList i.toNat (by simp) (by simp only [maxLen]; omega) (by simp [size_madeCells, hz2]) (fun q e hq => by
    have hql : q < i.toNat := by have := (List.getElem?_eq_some_iff.1 hq).1; simpa using this
    have he : e = z0 := by
      rw [List.getElem?_replicate] at hq; simp [hql] at hq; exact hq.symm
    subst he
    rw [hz2, made_part hz (GoTy.pos (α := α)) _ _ hql]
    exact hz0)
  rw [Array.toArray_toList] at H2
  exact k _ _ _ _ (by have := hf.put hdn (.slice (some ⟨w.heap.size, 0, none⟩) i.toNat i.toNat); simpa using this) H2

/-! ### rows, by index -/
theorem row_cells {α : Type} [GoTy α] (H : Mem w0 S M R I w) {j : Nat} {fr : Bool} {E : TypeId} {A : Option Addr} {cap : Nat} {xs : List α} (hj : R[j]? = some ⟨fr, E, A, cap, xs⟩) {i : Int} {e : α} (he : idx xs i = some e) :
    ∃ b, A = some ⟨b, 0, none⟩ ∧ ∃ cs, GoTy.rep w (St w0 S M R fr) cs e ∧ ∀ q c, cs[q]? = some c → w.cell? ((⟨b, i.toNat * GoTy.n α, none⟩ : Addr).add q) = some c := by
  obtain ⟨h0, h1, h2⟩ := idx_lt he
  obtain ⟨cells, ho, hel⟩ := H.row _ (List.mem_of_getElem? hj)
  rcases ho.2 with ⟨hv, h3⟩ | ⟨b, cap', cur, hv, hb, hh, hnc, hcm, hcs, htk⟩
  · have : xs = [] := List.eq_nil_of_length_eq_zero h3
    subst this; simp at h2
  · simp only [Row.v, Value.slice.injEq] at hv
    refine ⟨b, hv.1, _, hel _ _ h2, fun q c hq => ?_⟩
    have hob : (Row.v ⟨fr, E, A, cap, xs⟩).ownBlock = some b := by unfold Row.v; rw [hv.1]; rfl
    have hlt : q < GoTy.n α := by
      have := (List.getElem?_eq_some_iff.1 hq).1
      simp only [List.length_take] at this; omega
    have h4 := ho.cells hob (i.toNat * GoTy.n α + q) c
    rw [add_lit, Nat.zero_add] at h4
    rw [add_lit]
    refine h4 ?_
    rw [List.getElem?_take_of_lt hlt, List.getElem?_drop] at hq
    exact hq

theorem op_iaddrR (hf : Fr a n L) (H : Mem w0 S M R I w) {α : Type} [GoTy α] {T E E' : TypeId} (hT : P.underlying T = some (.slice E)) (hE : SZ P E (GoTy.n α)) (j : Nat) {fr : Bool} {A : Option Addr} {cap : Nat} {xs : List α} {x y : Operand} {k : IntKind} {i : Int} {e : α}
    (hx : ev L x = some (.slice A xs.length cap)) (hy : ev L y = some (.int k i)) (hj : R[j]? = some ⟨fr, E', A, cap, xs⟩) (he : idx xs i = some e) (hdn : d < n)
    (kk : ∀ b o cs a', Fr a' n ((d, .pointer (some ⟨b, o, none⟩)) :: L) → (A = some ⟨b, 0, none⟩ ∧ o = i.toNat * GoTy.n α) → GoTy.rep w (St w0 S M R fr) cs e → (∀ q c, cs[q]? = some c → w.cell? ((⟨b, o, none⟩ : Addr).add q) = some c) → K a' w) :
    Oper.wp P ⟨some d, .indexAddr T x y, ty, pos, af, g⟩ a w K Q := by
  obtain ⟨h0, h1, h2⟩ := idx_lt he
  obtain ⟨b, rfl, cs, hr, hc⟩ := row_cells H hj he
  have hi := run_indexAt (P := P) (w := w) (cap := cap) hT hE h0 h1 (p := ⟨b, 0, none⟩) (k := k)
  rw [add_lit, Nat.zero_add] at hi
  exact op_q hf (v := .pointer (some ⟨b, i.toNat * GoTy.n α, none⟩)) (by simp [execOp, hf.eval hx, hf.eval hy, hi]) rfl hdn fun a' hf' => kk b _ cs a' hf' ⟨rfl, rfl⟩ hr hc

theorem run_storeRow {B b n' cap size : Nat} {E : TypeId} (o : Nat) : ∀ (vs : List Value) (w : World) (q : Nat) (cells : List Value), w.ownsRow B E size (.slice (some ⟨b, 0, none⟩) n' cap) n' cells → (∀ v ∈ vs, v.oneCell' = true) → o + q + vs.length ≤ cells.length →
    ∃ w', (storeCells ⟨b, o, none⟩ vs q).run P w = .ok () w' ∧ w'.ownsRow B E size (.slice (some ⟨b, 0, none⟩) n' cap) n' (cells.take (o + q) ++ vs ++ cells.drop (o + q + vs.length)) ∧ w.grownBy w' (some b) := by
  intro vs
  induction vs with
  | nil =>
    intro w q cells ho _ _
    exact ⟨w, by simp [storeCells], by simpa using ho, ⟨rfl, rfl, rfl, Nat.le_refl _, fun _ _ _ => rfl⟩⟩
  | cons v vs ih =>
    intro w q cells ho h1 hlen
    simp only [List.length_cons] at hlen
    have hcl : cells.length = n' * size := ho.1
    have hcell : w.cell? ⟨b, o + q, none⟩ = some (cells[o + q]'(by omega)) := by
      rw [ho.cellAt _ (by omega)]; exact List.getElem?_eq_getElem (by omega)
    have hst : (store ((⟨b, o, none⟩ : Addr).add q) v).run P w = .ok () (w.setCell ⟨b, o + q, none⟩ v) := by
      rw [add_lit, run_store P w _ v .plain (h1 v (by simp)), hcell]
      simp [ho.frozenAt]
    obtain ⟨ho1, hg1⟩ := ho.stored (o + q) v
    obtain ⟨w', hr, ho2, hg⟩ := ih _ (q + 1) _ ho1 (fun u hu => h1 u (by simp [hu])) (by simp; omega)
    refine ⟨w', by simp [storeCells, hst, hr], ?_, World.grownBy.trans hg1 hg⟩
    have e1 : (cells.set (o + q) v).take (o + (q + 1)) = cells.take (o + q) ++ [v] := by
      rw [show o + (q + 1) = (o + q) + 1 by omega, List.take_add_one, List.take_set_of_le (by omega)]
      simp [show o + q < cells.length by omega]
    rw [e1, List.drop_set_of_lt (by omega)] at ho2
    rw [List.length_cons, show o + q + (vs.length + 1) = o + (q + 1) + vs.length by omega]
    simpa using ho2

theorem splice_part {l vs : List Value} {p m off q : Nat} (hl : p * m + m ≤ l.length) (hv : off + vs.length ≤ m) :
    ((l.take (p * m + off) ++ vs ++ l.drop (p * m + off + vs.length)).drop (q * m)).take m =
      if q = p then ((l.drop (p * m)).take m).take off ++ vs ++ ((l.drop (p * m)).take m).drop (off + vs.length) else (l.drop (q * m)).take m := by
  apply List.ext_getElem?
  intro j
  by_cases hj : j < m
  · rw [List.getElem?_take_of_lt hj, List.getElem?_drop]
    have hlen1 : (l.take (p * m + off)).length = p * m + off := by rw [List.length_take]; omega
    by_cases hq : q = p
    · subst hq
      rw [if_pos rfl, List.append_assoc, List.append_assoc, List.getElem?_append, List.getElem?_append, hlen1]
      have hlen2 : (((l.drop (q * m)).take m).take off).length = off := by simp; omega
      rw [List.getElem?_append, List.getElem?_append, hlen2]
      by_cases h1 : j < off
      · rw [if_pos (by omega), if_pos h1, List.getElem?_take_of_lt (by omega), List.getElem?_take_of_lt h1, List.getElem?_take_of_lt hj, List.getElem?_drop]
      · rw [if_neg (by omega), if_neg h1]
        by_cases h2 : j < off + vs.length
        · rw [if_pos (by omega), if_pos (by omega)]
          congr 1; omega
        · rw [if_neg (by omega), if_neg (by omega), List.getElem?_drop, List.getElem?_drop, List.getElem?_take_of_lt (by omega), List.getElem?_drop]
          congr 1; omega
    · rw [if_neg hq, List.getElem?_take_of_lt hj, List.getElem?_drop, List.append_assoc, List.getElem?_append, List.getElem?_append, hlen1]
      rcases Nat.lt_or_gt_of_ne hq with h | h
      · have h1 : q * m + m ≤ p * m := by
          have := Nat.mul_le_mul_right m (show q + 1 ≤ p from h)
          rwa [Nat.succ_mul] at this
        rw [if_pos (by omega), List.getElem?_take_of_lt (by omega)]
      · have h1 : p * m + m ≤ q * m := by
          have := Nat.mul_le_mul_right m (show p + 1 ≤ q from h)
          rwa [Nat.succ_mul] at this
        rw [if_neg (by omega), if_neg (by omega), List.getElem?_drop]
        congr 1; omega
  · rw [List.getElem?_eq_none (by simp; omega)]
    split
    · rw [List.getElem?_eq_none (by simp; omega)]
    · rw [List.getElem?_eq_none (by simp; omega)]

/-- A store into an element of a row. -/
theorem op_storeR (hf : Fr a n L) (H : Mem w0 S M R I w) {α : Type} [GoTy α] {T : TypeId} {m : Nat} (hT : SZ P T m) (j : Nat) {fr : Bool} {E : TypeId} {A : Option Addr} {cap : Nat} {xs : List α} {x y : Operand} {b o off : Nat} {i : Int} {e e' : α} {v : Value} {vs : List Value}
    (hx : ev L x = some (.pointer (some ⟨b, o + off, none⟩))) (hy : ev L y = some v) (hv : v.cells = vs.toArray) (h1 : (vs.all Value.oneCell') = true) (hm : vs.length = m) (hoff : off + m ≤ GoTy.n α) (hj : R[j]? = some ⟨fr, E, A, cap, xs⟩)
    (hA : A = some ⟨b, 0, none⟩ ∧ o = i.toNat * GoTy.n α) (he : idx xs i = some e) (hnew : ∀ cs, GoTy.rep w (St w0 S M R fr) cs e → GoTy.rep w (St w0 S M R fr) (cs.take off ++ vs ++ cs.drop (off + vs.length)) e')
    (k : ∀ w', Mem w0 S M (R.set j ⟨fr, E, A, cap, xs.set i.toNat e'⟩) I w' → K a w') : Oper.wp P ⟨none, .store T x y, ty, pos, af, g⟩ a w K Q := by
  obtain ⟨rfl, rfl⟩ := hA
  obtain ⟨h0, hlt, hg⟩ := idx_lt he
  obtain ⟨cells, ho, hel⟩ := H.row _ (List.mem_of_getElem? hj)
  have hT' : ∀ w, (Go.sizeOf T).run P w = .ok m w := hT
  have hcl : cells.length = xs.length * GoTy.n α := ho.1
  have hle : i.toNat * GoTy.n α + GoTy.n α ≤ cells.length := by
    rw [hcl]
    have := Nat.mul_le_mul_right (GoTy.n α) (show i.toNat + 1 ≤ xs.length by omega)
    rwa [Nat.succ_mul] at this
  obtain ⟨w', hr, ho2, hg2⟩ := run_storeRow (P := P) (i.toNat * GoTy.n α + off) vs w 0 cells ho (by simpa using h1) (by omega)
  have h2 : (execOp a.eval ⟨none, .store T x y, ty, pos, af, g⟩).run P w = .ok .skip w' := by
    simp [execOp, Instr.storeAt, Instr.sureAddr, storeVar, hf.eval hx, hf.eval hy, hv, hT', hm, hr]
  unfold Oper.wp
  rw [h2, Oper.upon_skip]
  have ho3 : w'.ownsRow w0.heap.size E (GoTy.n α) (Row.v ⟨fr, E, some ⟨b, 0, none⟩, cap, xs.set i.toNat e'⟩) (xs.set i.toNat e').length
      (cells.take (i.toNat * GoTy.n α + off) ++ vs ++ cells.drop (i.toNat * GoTy.n α + off + vs.length)) := by
    unfold Row.v
    rw [List.length_set]
    exact ho2
  refine k w' (H.reRow hj hg2 (.inl rfl) fun hmv => ⟨_, ho3, fun q z hz => ?_⟩)
  rw [splice_part hle (by omega)]
  simp only [List.getElem?_set] at hz
  by_cases hq : q = i.toNat
  · subst hq
    rw [if_pos rfl]
    have hz' : z = e' := by
      rw [if_pos rfl, if_pos (by omega)] at hz
      exact (Option.some.inj hz).symm
    rw [hz']
    exact GoTy.mono (hnew _ (hel _ _ hg)) (hmv _)
  · rw [if_neg hq]
    rw [if_neg (Ne.symm hq)] at hz
    exact GoTy.mono (hel _ _ hz) (hmv _)

theorem st_full {α : Type} [GoTy α] {T : Nat → Prop} {vs : List Value} {e e' : α} (hv : GoTy.rep w T vs e') : ∀ cs, GoTy.rep w T cs e → GoTy.rep w T (cs.take 0 ++ vs ++ cs.drop (0 + vs.length)) e' := by
  intro cs hc
  rw [List.take_zero, List.nil_append, Nat.zero_add, List.drop_eq_nil_of_le (by rw [GoTy.len hc, GoTy.len hv]; exact Nat.le_refl _), List.append_nil]
  exact hv

/-- l[x:y], l only read -/
theorem op_sliceI (hf : Fr a n L) (H : Mem w0 S M R I w) {α : Type} [GoTy α] {T E : TypeId} (hT : P.underlying T = some (.slice E)) (hE : SZ P E (GoTy.n α)) {x : Operand} {lo hi : Option Operand} {A : Option Addr} {len cap : Nat} {i j : Int} {xs ys : List α} {f : Bool} (q : Nat)
    (hx : ev L x = some (.slice A len cap)) (hlo : match lo with | some o => ev L o = some (.int .i64 i) | none => i = 0) (hhi : match hi with | some o => ev L o = some (.int .i64 j) | none => j = len)
    (hq : I[q]? = some (f, MP.val [.slice A len cap] xs)) (hs : sub xs i j = some ys) (hdn : d < n)
    (k : ∀ A' c' a', Fr a' n ((d, .slice A' ys.length c') :: L) → Mem w0 S M R ((f, MP.val [.slice A' ys.length c'] ys) :: I) w → K a' w) : Oper.wp P ⟨some d, .slice T x lo hi none, ty, pos, af, g⟩ a w K Q := by
  obtain ⟨A', cap', hcs, hlc, hcm, hel⟩ : lrep w (St w0 S M R f) [.slice A len cap] xs := H.get q hq
  simp only [List.cons.injEq, Value.slice.injEq, and_true] at hcs
  obtain ⟨rfl, rfl, rfl⟩ := hcs
  unfold sub at hs
  split at hs
  case isFalse => cases hs
  rename_i hb
  obtain ⟨h0, h1, h2⟩ := hb
  injection hs with hs
  have hyl : ys.length = j.toNat - i.toNat := by rw [← hs]; simp; omega
  have hE' : ∀ w, (Go.sizeOf E).run P w = .ok (GoTy.n α) w := hE
  have hval : (execOp a.eval ⟨some d, .slice T x lo hi none, ty, pos, af, g⟩).run P w = .ok (.value (.slice (if cap = i.toNat then A else A.map (·.add (i.toNat * GoTy.n α))) ys.length (cap - i.toNat))) w := by
    have hj : (j.toNat : Int) = j := Int.toNat_of_nonneg (by omega)
    have hlo' : (lo.map a.eval) = none ∧ i = 0 ∨ (lo.map a.eval) = some (.int .i64 i) := by
      cases lo with
      | none => exact .inl ⟨rfl, hlo⟩
      | some o => exact .inr (by simp [hf.eval hlo])
    have hhi' : (hi.map a.eval) = none ∧ j = xs.length ∨ (hi.map a.eval) = some (.int .i64 j) := by
      cases hi with
      | none => exact .inl ⟨rfl, hhi⟩
      | some o => exact .inr (by simp [hf.eval hhi])
    have hsl : (Instr.sliceAt T (.slice A xs.length cap) (lo.map a.eval) (hi.map a.eval) none).run P w = .ok (.slice (if cap = i.toNat then A else A.map (·.add (i.toNat * GoTy.n α))) ys.length (cap - i.toNat)) w := by
      rw [hyl]
      have hsb : (Instr.sliceBounds true xs.length cap (lo.map a.eval) (hi.map a.eval) none).run P w = .ok (i.toNat, j.toNat, cap) w := by
        rcases hlo' with ⟨e1, rfl⟩ | e1 <;> rcases hhi' with ⟨e2, e3⟩ | e2 <;> rw [e1, e2]
        · subst e3; simp [Instr.sliceBounds]
        · simp [Instr.sliceBounds, Instr.sliceBound, asIntOf, show 0 ≤ j by omega, show j ≤ cap by omega]
        · subst e3; simp [Instr.sliceBounds, Instr.sliceBound, asIntOf, h0, h1]
        · simp [Instr.sliceBounds, Instr.sliceBound, asIntOf, h0, show 0 ≤ j by omega, show j ≤ cap by omega, hj, h1]
      simp [Instr.sliceAt, Instr.slice, run_underlying hT, hsb, hE']
    simp [execOp, hf.eval hx, hsl]
  refine op_q hf hval rfl hdn fun a' hf' => k _ _ a' hf' (H.push _ ?_)
  refine ⟨_, _, rfl, by omega, by omega, fun t z hz => ?_⟩
  have hz' : xs[i.toNat + t]? = some z := by
    rw [← hs, List.getElem?_drop] at hz
    rw [List.getElem?_take] at hz
    split at hz
    · exact hz
    · cases hz
  obtain ⟨p, hp, hSp, cs, hc, hr⟩ := hel _ _ hz'
  have hlt := (List.getElem?_eq_some_iff.1 hz').1
  rw [if_neg (by omega), hp]
  refine ⟨p.add (i.toNat * GoTy.n α), rfl, by rw [block_add]; exact hSp, cs, fun u c hu => ?_, hr⟩
  rw [add_add, ← Nat.add_assoc, ← Nat.add_mul]
  exact hc u c hu
end
end AT
