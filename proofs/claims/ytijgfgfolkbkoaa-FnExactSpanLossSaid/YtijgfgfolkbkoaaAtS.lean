/- What a function does with rows: literals, append, reading, writing, handing on. -/
import Derived.Test.YtijgfgfolkbkoaaAtR
set_option linter.unusedSimpArgs false
set_option linter.unusedVariables false
namespace AT
open Go Go.RowKit

/-- What is asked of an element's type, for append and make. -/
def AI (P : Program) (E : TypeId) (n : Nat) (z : Value) (bytes : Nat) : Prop := (P.info? E).map (fun i => (i.zero, i.size, i.bytes)) = some (some z, n, bytes)

section
variable {P : Program} {Q : Exit → Act → World → Prop} {a : Act} {w w0 : World} {n : Nat} {L : List (Nat × Value)} {K : Act → World → Prop}
variable {S : Nat → Prop} {M : List Blk} {R : List Row} {I : List (Bool × MP)} {dst : Option Tmp} {d : Nat} {ty : TypeId} {pos : String} {af : Array Edge} {g : Option (Nat × Bool)}

/-- A row is done: from here on it is only read. -/
theorem Mem.freeze (H : Mem w0 S M R I w) (i : Nat) {r : Row} (hi : R[i]? = some r) : Mem w0 S M (R.eraseIdx i) ((r.fresh, MP.val [r.v] r.xs) :: I) w := by
  have hmem := List.mem_of_getElem? hi
  have hsub : (ownB M (R.eraseIdx i)).Sublist (ownB M R) := (List.Sublist.refl _).append ((List.eraseIdx_sublist R i).filterMap _)
  have hw : ∀ f, Moves w w (St w0 S M R f) (St w0 S M (R.eraseIdx i) f) := St.weaken fun b hb => hsub.mem hb
  obtain ⟨cells, ho, he⟩ := H.row r hmem
  refine ⟨H.below, H.blk, fun q hq => ?_, hsub.nodup H.nd, fun f hf => ?_⟩
  · obtain ⟨cells', ho', he'⟩ := H.row q ((List.eraseIdx_sublist R i).mem hq)
    exact ⟨cells', ho', fun j x hx => GoTy.mono (he' j x hx) (hw _)⟩
  · rcases List.mem_cons.1 hf with rfl | hf
    · show lrep w _ [r.v] r.xs
      rcases ho.2 with ⟨hv, h0⟩ | ⟨b, cap, cur, hv, hb, hh, hnc, hcm, hcs, htk⟩
      · have hx : r.xs = [] := List.eq_nil_of_length_eq_zero h0
        simp only [Row.v, Value.slice.injEq] at hv
        refine ⟨none, 0, by simp [Row.v, hv.1, hv.2.2], by omega, by simp [maxLen], fun j x hj => by rw [hx] at hj; simp at hj⟩
      · have hob : r.v.ownBlock = some b := by rw [hv]; rfl
        simp only [Row.v, Value.slice.injEq] at hv
        refine ⟨some ⟨b, 0, none⟩, cap, by simp [Row.v, hv.1, hv.2.2], hnc, hcm, fun j x hj => ⟨_, rfl, ?_, (cells.drop (j * GoTy.n r.α)).take (GoTy.n r.α), fun k c hk => ?_, GoTy.mono (he j x hj) (hw _)⟩⟩
        · refine .inr ⟨hb, fun h3 => ?_⟩
          have hp : (ownB M R).Perm (b :: ownB M (R.eraseIdx i)) := by
            obtain ⟨hl, he2⟩ := List.getElem?_eq_some_iff.1 hi
            have h2 : R = R.take i ++ r :: R.drop (i + 1) := by rw [← he2, List.getElem_cons_drop hl, List.take_append_drop]
            rw [List.eraseIdx_eq_take_drop_succ]
            conv => lhs; rw [h2]
            simp only [ownB, List.filterMap_append, fmc, hob, Option.toList_some, List.singleton_append]
            rw [← List.append_assoc, ← List.append_assoc]
            exact List.perm_middle
          exact (List.nodup_cons.1 (hp.nodup_iff.1 H.nd)).1 h3
        · have hob' : (Value.slice r.A r.xs.length r.cap).ownBlock = some b := hob
          have hc := ho.cells hob (j * GoTy.n r.α + k) c
          refine hc ?_
          have hlt : k < GoTy.n r.α := by
            have := (List.getElem?_eq_some_iff.1 hk).1
            simp only [List.length_take] at this; omega
          rw [List.getElem?_take_of_lt hlt, List.getElem?_drop] at hk
          exact hk
    · exact f.2.mono (H.imm f hf) (hw _)

/-- A row, as an argument of a callee that hands back nothing of it. -/
theorem Mem.rowTrue (H : Mem w0 S M R I w) (i : Nat) {r : Row} (hi : R[i]? = some r) : lrep w (fun _ => True) [r.v] r.xs := by
  have h := (H.freeze i hi).get 0 (f := (r.fresh, MP.val [r.v] r.xs)) rfl
  exact GoTy.mono (α := List r.α) h fun b _ _ => ⟨trivial, rfl⟩
theorem rep_true {α : Type} [GoTy α] {T : Nat → Prop} {cs : List Value} {x : α} (h : GoTy.rep w T cs x) : GoTy.rep w (fun _ => True) cs x := GoTy.mono h fun b _ _ => ⟨trivial, rfl⟩
theorem rep_weak {α : Type} [GoTy α] {cs : List Value} {x : α} {f : Bool} (h : GoTy.rep w (St w0 S M R f) cs x) : GoTy.rep w (St w0 S M R false) cs x := GoTy.mono h fun b hb _ => by
  refine ⟨?_, rfl⟩
  rcases hb with ⟨rfl, h1, h2⟩ | h
  · exact .inl ⟨rfl, h1, h2⟩
  · exact .inr h
theorem Mem.pushNil (H : Mem w0 S M R I w) (α : Type) [GoTy α] (f : Bool) : Mem w0 S M R ((f, MP.val [.slice none 0 0] ([] : List α)) :: I) w :=
  H.push _ ⟨none, 0, rfl, Nat.le_refl _, by simp [maxLen], fun i x hx => by simp at hx⟩

def evp (L : List (Nat × Value)) : List (Nat × Operand) → Option (List (Nat × Value))
  | [] => some []
  | (i, x) :: r => (ev L x).bind fun v => (evp L r).map ((i, v) :: ·)
theorem Fr.evalp (hf : Fr a n L) : ∀ {ps : List (Nat × Operand)} {qs : List (Nat × Value)}, evp L ps = some qs → ps.map (fun p => (p.1, a.eval p.2)) = qs
  | [], qs, h => by simp [evp] at h; simp [h]
  | (i, x) :: r, qs, h => by
    simp only [evp, Option.bind_eq_some_iff, Option.map_eq_some_iff] at h
    obtain ⟨v, hv, us, hus, rfl⟩ := h
    simp [hf.eval hv, hf.evalp hus]
theorem el0 {α : Type} [GoTy α] {T : Nat → Prop} {cells : List Value} : ∀ i (x : α), ([] : List α)[i]? = some x → GoTy.rep w T ((cells.drop (i * GoTy.n α)).take (GoTy.n α)) x := by intro i x h; simp at h
theorem el1 {α : Type} [GoTy α] {T : Nat → Prop} {cells : List Value} {y : α} (h : GoTy.rep w T cells y) : ∀ i (x : α), [y][i]? = some x → GoTy.rep w T ((cells.drop (i * GoTy.n α)).take (GoTy.n α)) x := by
  intro i x hx
  cases i with
  | zero =>
    simp only [List.getElem?_cons_zero, Option.some.injEq] at hx
    subst hx
    rw [Nat.zero_mul, List.drop_zero, List.take_of_length_le (by rw [GoTy.len h]; exact Nat.le_refl _)]
    exact h
  | succ i => simp at hx
theorem elI {T : Nat → Prop} (ys : List Int) : ∀ i (x : Int), ys[i]? = some x → GoTy.rep w T (((ys.map (Value.int .i64)).drop (i * 1)).take 1) x := by
  intro i x hx
  show _ = _
  rw [Nat.mul_one, ← List.map_drop]
  obtain ⟨hl, he⟩ := List.getElem?_eq_some_iff.1 hx
  rw [List.drop_eq_getElem_cons hl, he]
  rfl

/-- []T{x, y, ..} -/
theorem op_bslice (hf : Fr a n L) (H : Mem w0 S M R I w) {α : Type} [GoTy α] (fresh : Bool) (E : TypeId) {T : TypeId} {m : Nat} {ps : List (Nat × Operand)} (xs : List α) (cells : List Value) {qs : List (Nat × Value)}
    (hp0 : evp L ps = some qs) (hb : ∀ w, (Instr.buildSlice T m qs.toArray).run P w = .ok (.slice (some ⟨w.heap.size, 0, none⟩) m m) (w.alloc (.cells cells.toArray E))) (hm : xs.length = m) (hmax : m ≤ 1099511627776)
    (hlen : cells.length = m * GoTy.n α) (hel : ∀ i x, xs[i]? = some x → GoTy.rep w (St w0 S M R fresh) ((cells.drop (i * GoTy.n α)).take (GoTy.n α)) x) (hdn : d < n)
    (k : ∀ A a' w', Fr a' n ((d, .slice A m m) :: L) → Mem w0 S M (⟨fresh, E, A, m, xs⟩ :: R) I w' → K a' w') : Oper.wp P ⟨some d, .buildSlice T m ps.toArray, ty, pos, af, g⟩ a w K Q := by
  have hp := hf.evalp hp0
  have h1 : (execOp a.eval ⟨some d, .buildSlice T m ps.toArray, ty, pos, af, g⟩).run P w = .ok (.value (.slice (some ⟨w.heap.size, 0, none⟩) m m)) (w.alloc (.cells cells.toArray E)) := by
    have e : (ps.toArray.map fun p => (p.1, a.eval p.2)) = qs.toArray := by rw [List.map_toArray, hp]
    simp only [execOp]
    rw [show (ps.toArray.map fun x => match x with | (i, x) => (i, a.eval x)) = qs.toArray from e]
    simp [hb]
  unfold Oper.wp
  rw [h1, Oper.upon_value]
  exact k _ _ _ (hf.put hdn _) (H.newRow fresh E xs cells m (by omega) (by simp only [maxLen]; omega) hlen hel)

/-- The cells of a slice that is only read, in a row. -/
theorem gather {α : Type} [GoTy α] {T : Nat → Prop} {p : Addr} : ∀ (ys : List α) (o : Nat), (∀ i x, ys[i]? = some x → ElemAt α w T p (o + i) x) →
    ∃ news : List Value, news.length = ys.length * GoTy.n α ∧ (∀ j u, news[j]? = some u → w.cell? (p.add (o * GoTy.n α + j)) = some u) ∧ (∀ u ∈ news, u.oneCell' = true) ∧
      ∀ i x, ys[i]? = some x → GoTy.rep w T ((news.drop (i * GoTy.n α)).take (GoTy.n α)) x
  | [], o, _ => ⟨[], by simp, by simp, by simp, by simp⟩
  | y :: ys, o, h => by
    obtain ⟨news, h1, h2, h3, h4⟩ := gather ys (o + 1) (fun i x hx => by have := h (i + 1) x (by simpa using hx); rwa [show o + (i + 1) = o + 1 + i by omega] at this)
    obtain ⟨cs, hc, hr⟩ := h 0 y rfl
    have hl := GoTy.len hr
    refine ⟨cs ++ news, by simp [hl, h1, Nat.add_mul, Nat.add_comm], fun j u hj => ?_, fun u hu => (List.mem_append.1 hu).elim (GoTy.one hr u) (h3 u), fun i x hx => ?_⟩
    · rw [List.getElem?_append] at hj
      split at hj
      · exact hc j u hj
      · have := h2 _ u hj
        rw [show (o + 1) * GoTy.n α + (j - cs.length) = o * GoTy.n α + j by rw [Nat.add_mul]; omega] at this
        exact this
    · cases i with
      | zero =>
        simp only [List.getElem?_cons_zero, Option.some.injEq] at hx
        subst hx
        simp only [Nat.zero_mul, List.drop_zero]
        rw [List.take_append_of_le_length (by omega), List.take_of_length_le (by omega)]
        exact hr
      | succ i =>
        have := h4 i x (by simpa using hx)
        have e : (cs ++ news).drop ((i + 1) * GoTy.n α) = news.drop (i * GoTy.n α) := by
          rw [Nat.add_mul, Nat.one_mul, Nat.add_comm, ← hl, List.drop_append]
          simp
        rw [e]
        exact this

/-- append of cells that lie somewhere, onto a row of the call's own. -/
theorem Mem.append (H : Mem w0 S M R I w) {α : Type} [GoTy α] {T E ty' : TypeId} {z : Value} {bytes : Nat} (hT : P.underlying T = some (.slice E)) (hE : AI P E (GoTy.n α) z bytes) (hz : z.cells.size = GoTy.n α) (hby : bytes ≤ 128) (i : Nat) {fr : Bool} {A : Option Addr} {cap : Nat} {xs ys zs : List α}
    (hi : R[i]? = some ⟨fr, E, A, cap, xs⟩) (happ : app xs ys = some zs) {A' : Option Addr} {c : Nat}
    (hsrc : lrep w (fun _ => True) [.slice A' ys.length c] ys) (hrep : (∀ (p : Addr) (news : List Value), A' = some p → news.length = ys.length * GoTy.n α → (∀ j u, news[j]? = some u → w.cell? (p.add j) = some u) → ∀ i x, ys[i]? = some x → GoTy.rep w (St w0 S M R fr) ((news.drop (i * GoTy.n α)).take (GoTy.n α)) x)) :
    ∃ A2 cap2 w', (Builtin.append_ #[T, T] ty' #[.slice A xs.length cap, .slice A' ys.length c]).run P w = .ok (.slice A2 zs.length cap2) w' ∧ Mem w0 S M (R.set i ⟨fr, E, A2, cap2, zs⟩) I w' := by
  unfold app at happ
  split at happ
  case isFalse => cases happ
  rename_i hlen
  injection happ with happ
  subst happ
  obtain ⟨inf, hinf, hpr⟩ := Option.map_eq_some_iff.1 hE
  simp only [Prod.mk.injEq] at hpr
  obtain ⟨hz1, hz2, hz3⟩ := hpr
  obtain ⟨cells, ho, he⟩ := H.row _ (List.mem_of_getElem? hi)
  have hB := H.below.size
  obtain ⟨A'', c'', hcs, hyc, hcm, hel⟩ := hsrc
  simp only [List.cons.injEq, Value.slice.injEq, and_true] at hcs
  obtain ⟨rfl, -, rfl⟩ := hcs
  cases A' with
  | none =>
    have hy : ys = [] := by
      cases ys with
      | nil => rfl
      | cons y ys =>
        obtain ⟨p, hp, _⟩ := hel 0 y rfl
        cases hp
    subst hy
    simp only [List.append_nil]
    refine ⟨A, cap, w, ?_, ?_⟩
    · rcases ho.2 with ⟨hv, h0⟩ | ⟨b, cap', cur, hv, _, _, hnc, _⟩
      · simp only [Row.v, Value.slice.injEq] at hv
        obtain ⟨rfl, hv2, rfl⟩ := hv
        simp [Builtin.append_, run_underlying hT, Go.sizeOf, typeInfo, hinf, Builtin.lenOf, Builtin.firstCells, hv2]
      · simp only [Row.v, Value.slice.injEq] at hv
        obtain ⟨rfl, -, rfl⟩ := hv
        simp [Builtin.append_, run_underlying hT, Go.sizeOf, typeInfo, hinf, Builtin.lenOf, Builtin.firstCells, hnc, storeCells]
    · have hs : R.set i ⟨fr, E, A, cap, xs⟩ = R := by
        obtain ⟨h1, h2⟩ := List.getElem?_eq_some_iff.1 hi
        rw [← h2]; exact List.set_getElem_self h1
      rw [hs]; exact H
  | some p =>
    obtain ⟨news, g1, g2, g3, _⟩ := gather (w := w) (T := fun _ => True) (p := p) ys 0 (fun k x hx => by
      obtain ⟨p', hp', _, h⟩ := hel k x hx
      injection hp' with hp'; subst hp'
      rwa [Nat.zero_add])
    simp only [Nat.zero_mul, Nat.zero_add] at g2
    have hbytes : (xs.length + ys.length) * bytes ≤ 140737488355328 := by
      have := Nat.mul_le_mul hlen hby
      omega
    obtain ⟨v', w', hr, h1, h2, _, h4⟩ := run_append_own_at (P := P) w w0.heap.size T ty' E inf z (GoTy.n α) bytes hT hinf hz1 hz2 hz3 hz (GoTy.pos (α := α)) _ xs.length cells ho p ys.length c news g1 g2 g3 (by simp only [maxLen]; omega) hbytes hB
    have hcl : cells.length = xs.length * GoTy.n α := ho.1
    have hform : ∃ A2 cap2, v' = .slice A2 (xs ++ ys).length cap2 := by
      rcases h1.2 with ⟨rfl, h0⟩ | ⟨b, cap', cur, rfl, _⟩
      · exact ⟨none, 0, by rw [List.length_append, h0]⟩
      · exact ⟨some ⟨b, 0, none⟩, cap', by rw [List.length_append]⟩
    obtain ⟨A2, cap2, rfl⟩ := hform
    refine ⟨A2, cap2, w', hr, H.reRow hi h2 h4 fun hm => ⟨cells ++ news, (by rw [← List.length_append] at h1; exact h1), fun k x hx => ?_⟩⟩
    simp only at hx
    rw [List.getElem?_append] at hx
    have hpos := GoTy.pos (α := α)
    split at hx
    · rename_i hk
      have h5 := he k x hx
      have hle : k * GoTy.n α + GoTy.n α ≤ cells.length := by
        rw [hcl]
        have := Nat.mul_le_mul_right (GoTy.n α) (show k + 1 ≤ xs.length from hk)
        rwa [Nat.succ_mul] at this
      have e : ((cells ++ news).drop (k * GoTy.n α)).take (GoTy.n α) = (cells.drop (k * GoTy.n α)).take (GoTy.n α) := by
        rw [List.drop_append_of_le_length (by omega), List.take_append_of_le_length (by rw [List.length_drop]; omega)]
      rw [e]
      exact GoTy.mono h5 (hm _)
    · rename_i hk
      have h5 := hrep p news rfl g1 g2 _ x hx
      have e : (cells ++ news).drop (k * GoTy.n α) = news.drop ((k - xs.length) * GoTy.n α) := by
        rw [List.drop_append, List.drop_eq_nil_of_le (by rw [hcl]; exact Nat.mul_le_mul_right _ (by omega)), List.nil_append, hcl, Nat.sub_mul]
      rw [e]
      exact GoTy.mono h5 (hm _)

theorem op_append_of (hf : Fr a n L) {T : TypeId} {x y : Operand} {v u : Value} (hx : ev L x = some v) (hy : ev L y = some u) {r : Value} {w' : World} (hr : (Builtin.append_ #[T, T] ty #[v, u]).run P w = .ok r w') (hdn : d < n)
    (k : ∀ a', Fr a' n ((d, r) :: L) → K a' w') : Oper.wp P ⟨some d, .call ⟨.builtin .append, #[x, y], #[T, T]⟩, ty, pos, af, g⟩ a w K Q := by
  have h1 : (execOp a.eval ⟨some d, .call ⟨.builtin .append, #[x, y], #[T, T]⟩, ty, pos, af, g⟩).run P w = .ok (.value r) w' := by
    simp [execOp, resolve, invoke, builtin, hf.eval hx, hf.eval hy, hr]
  unfold Oper.wp
  rw [h1, Oper.upon_value]
  exact k _ (hf.put hdn _)

/-- append(row i, row j...) -/
theorem op_appR (hf : Fr a n L) (H : Mem w0 S M R I w) {α : Type} [GoTy α] {T E E' : TypeId} {z : Value} {bytes : Nat} (hT : P.underlying T = some (.slice E)) (hE : AI P E (GoTy.n α) z bytes) (hz : z.cells.size = GoTy.n α) (hby : bytes ≤ 128) (i j : Nat) {fr fr' : Bool} {A A' : Option Addr} {cap cap' : Nat} {xs ys zs : List α}
    {x y : Operand} (hx : ev L x = some (.slice A xs.length cap)) (hy : ev L y = some (.slice A' ys.length cap')) (hi : R[i]? = some ⟨fr, E, A, cap, xs⟩) (hj : R[j]? = some ⟨fr', E', A', cap', ys⟩) (hfr : fr = false ∨ fr' = true) (happ : app xs ys = some zs) (hdn : d < n)
    (k : ∀ A2 cap2 a' w', Fr a' n ((d, .slice A2 zs.length cap2) :: L) → Mem w0 S M (R.set i ⟨fr, E, A2, cap2, zs⟩) I w' → K a' w') : Oper.wp P ⟨some d, .call ⟨.builtin .append, #[x, y], #[T, T]⟩, ty, pos, af, g⟩ a w K Q := by
  obtain ⟨A2, cap2, w', hr, H2⟩ := H.append (ty' := ty) hT hE hz hby i hi happ (H.rowTrue j hj) (fun p news hp hl hc q e hq => by
    obtain ⟨cells, ho, he⟩ := H.row _ (List.mem_of_getElem? hj)
    have hn : news = cells := by
      subst hp
      have hob : Value.ownBlock (Row.v ⟨fr', E', some p, cap', ys⟩) = some p.block := rfl
      have hp0 : p = ⟨p.block, 0, none⟩ := by
        rcases ho.2 with ⟨hv, _⟩ | ⟨b, c2, cur, hv, _⟩
        · simp only [Row.v, Value.slice.injEq] at hv; cases hv.1
        · simp only [Row.v, Value.slice.injEq] at hv; injection hv.1 with h; rw [h]
      apply List.ext_getElem?
      intro t
      by_cases ht : t < ys.length * GoTy.n α
      · have h1 : cells.length = ys.length * GoTy.n α := ho.1
        have h2 := ho.cells hob t _ (List.getElem?_eq_getElem (by omega))
        have h3 := hc t _ (List.getElem?_eq_getElem (by omega))
        rw [← hp0, h3] at h2
        rw [List.getElem?_eq_getElem (by omega), List.getElem?_eq_getElem (by omega)]
        exact h2
      · have h1 : cells.length = ys.length * GoTy.n α := ho.1
        rw [List.getElem?_eq_none (by omega), List.getElem?_eq_none (by omega)]
    subst hn
    have h5 := he q e hq
    rcases hfr with rfl | rfl
    · exact rep_weak h5
    · cases fr
      · exact rep_weak h5
      · exact h5)
  exact op_append_of hf hx hy hr hdn fun a' hf' => k _ _ _ _ hf' H2

/-- append(row i, l...), l only read -/
theorem op_appI (hf : Fr a n L) (H : Mem w0 S M R I w) {α : Type} [GoTy α] {T E : TypeId} {z : Value} {bytes : Nat} (hT : P.underlying T = some (.slice E)) (hE : AI P E (GoTy.n α) z bytes) (hz : z.cells.size = GoTy.n α) (hby : bytes ≤ 128) (i j : Nat) {fr f : Bool} {A A' : Option Addr} {cap len' cap' : Nat} {xs ys zs : List α}
    {x y : Operand} (hx : ev L x = some (.slice A xs.length cap)) (hy : ev L y = some (.slice A' len' cap')) (hi : R[i]? = some ⟨fr, E, A, cap, xs⟩) (hj : I[j]? = some (f, MP.val [.slice A' len' cap'] ys)) (hfr : fr = false ∨ f = true) (happ : app xs ys = some zs) (hdn : d < n)
    (k : ∀ A2 cap2 a' w', Fr a' n ((d, .slice A2 zs.length cap2) :: L) → Mem w0 S M (R.set i ⟨fr, E, A2, cap2, zs⟩) I w' → K a' w') : Oper.wp P ⟨some d, .call ⟨.builtin .append, #[x, y], #[T, T]⟩, ty, pos, af, g⟩ a w K Q := by
  have hl : lrep w (St w0 S M R f) [.slice A' len' cap'] ys := H.get j hj
  obtain ⟨A'', c'', hcs, hyc, hcm, hel⟩ := id hl
  simp only [List.cons.injEq, Value.slice.injEq, and_true] at hcs
  obtain ⟨rfl, rfl, rfl⟩ := hcs
  obtain ⟨A2, cap2, w', hr, H2⟩ := H.append (ty' := ty) hT hE hz hby i hi happ (rep_true (α := List α) hl) (fun p news hp hl' hc q e hq => by
    obtain ⟨news', g1, g2, g3, g4⟩ := gather (w := w) (T := St w0 S M R f) (p := p) ys 0 (fun k x hx => by
      obtain ⟨p', hp', _, h⟩ := hel k x hx
      rw [hp] at hp'
      injection hp' with hp'; subst hp'
      rwa [Nat.zero_add])
    have hn : news = news' := by
      apply List.ext_getElem?
      intro t
      by_cases ht : t < ys.length * GoTy.n α
      · have h2 := g2 t _ (List.getElem?_eq_getElem (by omega))
        have h3 := hc t _ (List.getElem?_eq_getElem (by omega))
        rw [Nat.zero_mul, Nat.zero_add, h3] at h2
        rw [List.getElem?_eq_getElem (by omega), List.getElem?_eq_getElem (by omega)]
        exact h2
      · rw [List.getElem?_eq_none (by omega), List.getElem?_eq_none (by omega)]
    subst hn
    have h5 := g4 q e hq
    rcases hfr with rfl | rfl
    · exact rep_weak h5
    · cases fr
      · exact rep_weak h5
      · exact h5)
  exact op_append_of hf hx hy hr hdn fun a' hf' => k _ _ _ _ hf' H2
end
end AT
