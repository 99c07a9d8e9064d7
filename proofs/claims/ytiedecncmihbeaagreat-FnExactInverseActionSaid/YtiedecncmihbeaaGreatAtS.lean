/- What a function does with rows: literals, append, reading, writing, handing on. -/
import Derived.Test.YtiedecncmihbeaaGreatAtR
set_option linter.unusedSimpArgs false
set_option linter.unusedVariables false
namespace AT
open Go Go.RowKit

def AI (P : Program) (E : TypeId) (n : Nat) (z : Value) (bytes : Nat) : Prop := (P.info? E).map (fun i => (i.zero, i.size, i.bytes)) = some (some z, n, bytes)

section
variable {P : Program} {Q : Exit → Act → World → Prop} {a : Act} {w : World} {w0 : Base} {n : Nat} {L : List (Nat × Value)} {K : Act → World → Prop}
variable {S : Nat → Prop} {M : List Blk} {R : List Row} {D : List DI} {I : List (Bool × MP)} {dst : Option Tmp} {d : Nat} {ty : TypeId} {pos : String} {af : Array Edge} {g : Option (Nat × Bool)}

theorem fd_not_fm {r : Res} {b : Nat} : ∀ {Z : List Res}, (allZ Z).Nodup → r ∈ Z → b ∈ r.fd → b ∉ fmZ Z
  | [], _, h, _ => by cases h
  | q :: Z, hn, hr, hb => by
    have hn' : (q.all ++ allZ Z).Nodup := hn
    obtain ⟨h1, h2, h3⟩ := List.nodup_append.1 hn'
    intro h
    have h' : b ∈ q.fm ++ fmZ Z := h
    rcases List.mem_cons.1 hr with rfl | hr
    · rcases List.mem_append.1 h' with h | h
      · exact (List.nodup_append.1 h1).2.2 b h b hb rfl
      · exact h3 b (List.mem_append.2 (.inr hb)) b (fm_all h) rfl
    · rcases List.mem_append.1 h' with h | h
      · exact h3 b (List.mem_append.2 (.inl h)) b (List.mem_flatMap.2 ⟨r, hr, List.mem_append.2 (.inr hb)⟩) rfl
      · exact fd_not_fm h2 hr hb h
theorem MemZ.fd_st {Z : List Res} (H : MemZ w0 S Z I w) {r : Res} (hr : r ∈ Z) {b : Nat} (hb : b ∈ r.fd) (f : Bool) : StZ w0 S Z f b :=
  .inr ⟨(H.lt b (List.mem_flatMap.2 ⟨r, hr, List.mem_append.2 (.inr hb)⟩)).1, fd_not_fm H.nd hr hb⟩
theorem row_mem {r : Row} (hr : r ∈ R) : r.res ∈ zs M R D := List.mem_append.2 (.inr (List.mem_append.2 (.inl (List.mem_map.2 ⟨r, hr, rfl⟩))))
theorem di_mem {d : DI} (hd : d ∈ D) : d.res ∈ zs M R D := List.mem_append.2 (.inr (List.mem_append.2 (.inr (List.mem_map.2 ⟨d, hd, rfl⟩))))

theorem Mem.elRep (H : Mem w0 S M R D I w) {r : Row} (hr : r ∈ R) {i : Nat} {x : r.α} {cs : List Value} (hi : i < r.xs.length) (hf : r.k.fits r.xs.length) (h : r.k.holds w (St w0 S M R D r.k.fresh) i cs x) : GoTy.rep w (St w0 S M R D r.k.fresh) cs x := by
  cases hk : r.k with
  | sh f => rw [hk] at h; exact h
  | ow Fs =>
    rw [hk] at h hf
    have hFi : Fs[i]? = some (Fs[i]'(by rw [show Fs.length = _ from hf]; exact hi)) := List.getElem?_eq_getElem _
    exact GoTy.mono (GoTy.own_rep (h _ hFi)) fun b hb _ => ⟨MemZ.fd_st H (row_mem hr) (by show b ∈ r.k.fd; rw [hk]; exact mem_fs hFi hb) _, rfl⟩

theorem Mem.freeze (H : Mem w0 S M R D I w) (i : Nat) {r : Row} (hi : R[i]? = some r) : Mem w0 S M (R.eraseIdx i) D ((r.k.fresh, MP.val [r.v] r.xs) :: I) w := by
  have hmem := List.mem_of_getElem? hi
  have hp := zsR_out (M := M) (D := D) hi
  have H1 : Mem w0 S M (R.eraseIdx i) D I w := MemZ.step (rs := [r.res]) (rs' := []) (MemZ.perm H hp) (Chg.refl _ _) (fun b hb => by cases hb) (fun b hb => by cases hb) .nil (fun _ q hq => by cases hq)
  obtain ⟨cells, ho, hf, he⟩ := H.rowAt hmem
  have hsub : ∀ b, b ∈ fmZ (zs M (R.eraseIdx i) D) → b ∈ fmZ (zs M R D) := fun b hb => by
    refine (hp.flatMap_right Res.fm : (fmZ _).Perm (fmZ _)).mem_iff.2 ?_
    show b ∈ fmZ _
    rw [fmZ_app]; exact List.mem_append.2 (.inr hb)
  refine H1.push _ (show lrep w _ [r.v] r.xs from row_rep ho (fun b hb => ?_) fun j x hx => ?_)
  · refine .inr ⟨(MemZ.lt H b (List.mem_flatMap.2 ⟨_, row_mem hmem, List.mem_append.2 (.inl (by show b ∈ r.v.ownBlock.toList; rw [show r.v.ownBlock = some b from hb]; simp))⟩)).1, fun h => ?_⟩
    have h1 := MemZ.nd (MemZ.perm H hp)
    rw [allZ_app, allZ_one] at h1
    exact (List.nodup_append.1 h1).2.2 b (List.mem_append.2 (.inl (by show b ∈ r.v.ownBlock.toList; rw [show r.v.ownBlock = some b from hb]; simp))) b (fm_all h) rfl
  · exact GoTy.mono (H.elRep hmem (List.getElem?_eq_some_iff.1 hx).1 hf (he j x hx)) (StZ_weaken hsub _)

theorem Mem.rowTrue (H : Mem w0 S M R D I w) (i : Nat) {r : Row} (hi : R[i]? = some r) : lrep w (fun _ => True) [r.v] r.xs := by
  have h := (H.freeze i hi).get 0 (f := (r.k.fresh, MP.val [r.v] r.xs)) rfl
  exact GoTy.mono (α := List r.α) h fun b _ _ => ⟨trivial, rfl⟩

theorem Mem.freezeOwn (H : Mem w0 S M R D I w) (i : Nat) {α : Type} [GoTy α] {Fs : List (List Nat)} {E : TypeId} {A : Option Addr} {cap : Nat} {xs : List α} (hi : R[i]? = some ⟨.ow Fs, E, A, cap, xs⟩) :
    ∃ F, Mem w0 S M (R.eraseIdx i) (⟨F, MP.own F [.slice A xs.length cap] xs⟩ :: D) I w := by
  have hp := zsR_out (M := M) (D := D) hi
  have H1 := MemZ.perm H hp
  refine ⟨(Row.res ⟨.ow Fs, E, A, cap, xs⟩).all, MemZ.perm (MemZ.step (rs := [Row.res ⟨.ow Fs, E, A, cap, xs⟩]) (rs' := [DI.res ⟨_, MP.own _ _ xs⟩]) H1 (Chg.refl _ _) (fun b hb => .inl ?_) (fun b hb => ?_) ?_ (fun _ q hq => ?_)) (zsD_cons _).symm⟩
  · rw [allZ_one] at hb ⊢
    simpa [Res.all, DI.res] using hb
  · rw [fmZ_one] at hb; cases hb
  · have h1 := MemZ.nd H1
    rw [allZ_app, allZ_one] at h1
    rw [allZ_one]; simpa [Res.all, DI.res] using (List.nodup_append.1 h1).1
  · rw [List.mem_singleton] at hq; subst hq
    obtain ⟨cells, ho, hf, he⟩ := H.rowAt (List.mem_of_getElem? hi)
    refine ⟨⟨⟨A, cap, E, cells, Fs, rfl, ho, rfl, hf, fun j x Fi hx hFi => he j x hx Fi hFi⟩, fun b hb => hb⟩, fun b hb => ?_⟩
    exact (MemZ.lt H1 b (by rw [allZ_app, allZ_one]; exact List.mem_append.2 (.inl hb))).2

theorem flatten_nil (n : Nat) : List.flatten (List.replicate n ([] : List Nat)) = [] := by induction n <;> simp_all [List.replicate_succ]
theorem Mem.rowOwn (H : Mem w0 S M R D I w) (i : Nat) {α : Type} [GoTy α] {f : Bool} {E : TypeId} {A : Option Addr} {cap : Nat} {xs : List α} (hfl : GoTy.flat α = true) (hi : R[i]? = some ⟨.sh f, E, A, cap, xs⟩) :
    Mem w0 S M (R.set i ⟨.ow (List.replicate xs.length []), E, A, cap, xs⟩) D I w := by
  refine H.reRow hi ⟨rfl, rfl, rfl, Nat.le_refl _, fun _ _ _ => rfl⟩ (.inl rfl) (by show (List.flatten _).Perm []; rw [flatten_nil]) fun hm => ?_
  obtain ⟨cells, ho, hf, he⟩ := H.rowAt (List.mem_of_getElem? hi)
  refine ⟨cells, ho, by simp [Kd.fits], fun j x hx Fi hFi => ?_⟩
  have : Fi = [] := by
    rw [List.getElem?_replicate] at hFi
    split at hFi
    · exact (Option.some.inj hFi).symm
    · cases hFi
  subst this
  exact GoTy.own_flat hfl (he j x hx)

theorem Mem.lend (H : Mem w0 S M R D I w) (j : Nat) {α : Type} [GoTy α] {F : List Nat} {cs : List Value} {x : α} (hj : D[j]? = some ⟨F, MP.own F cs x⟩) : Mem w0 S M R D ((true, MP.val cs x) :: I) w :=
  H.push _ (GoTy.mono (GoTy.own_rep (H.diAt (List.mem_of_getElem? hj)).1) fun b hb _ => ⟨MemZ.fd_st H (di_mem (List.mem_of_getElem? hj)) hb _, rfl⟩)
theorem Mem.frontR (H : Mem w0 S M R D I w) (i : Nat) {r : Row} (hi : R[i]? = some r) : Mem w0 S M (r :: R.eraseIdx i) D I w := MemZ.perm H (zs_permR (perm_out hi))
theorem Mem.frontD (H : Mem w0 S M R D I w) (i : Nat) {d : DI} (hi : D[i]? = some d) : Mem w0 S M R (d :: D.eraseIdx i) I w := MemZ.perm H (zs_permD (perm_out hi))
theorem zsD_app (X : List DI) : (zs M R (X ++ D)).Perm (X.map DI.res ++ zs M R D) := by
  unfold zs
  rw [List.map_append]
  have h : ∀ (A B C E : List Res), (A ++ (B ++ (C ++ E))).Perm (C ++ (A ++ (B ++ E))) := fun A B C E => by
    have h1 : (B ++ (C ++ E)).Perm (C ++ (B ++ E)) := by
      rw [← List.append_assoc, ← List.append_assoc]; exact List.perm_append_comm.append_right _
    refine (h1.append_left A).trans ?_
    rw [← List.append_assoc, ← List.append_assoc C]; exact List.perm_append_comm.append_right _
  exact h _ _ _ _
theorem allZ_di (X : List DI) : allZ (X.map DI.res) = X.flatMap DI.F := by
  simp [allZ, List.flatMap_map, Res.all, DI.res]
theorem fmZ_di (X : List DI) : fmZ (X.map DI.res) = [] := by
  induction X with
  | nil => rfl
  | cons d X ih => show d.res.fm ++ fmZ (X.map DI.res) = []; rw [ih]; rfl

theorem Mem.recast {X Y : List DI} (H : Mem w0 S M R (X ++ D) I w) (hF : (Y.flatMap DI.F).Perm (X.flatMap DI.F)) (hY : (∀ d ∈ X, d.p.pred w (· ∈ d.F)) → ∀ d ∈ Y, d.p.pred w (· ∈ d.F)) : Mem w0 S M R (Y ++ D) I w := by
  have H1 := MemZ.perm H (zsD_app X)
  refine MemZ.perm (MemZ.step (rs := X.map DI.res) (rs' := Y.map DI.res) H1 (Chg.refl _ _) (fun b hb => .inl ?_) (fun b hb => by rw [fmZ_di] at hb; cases hb) ?_ (fun _ q hq => ?_)) (zsD_app Y).symm
  · rw [allZ_di] at hb ⊢; exact hF.mem_iff.1 hb
  · have h1 := MemZ.nd H1
    rw [allZ_app] at h1
    rw [allZ_di]; refine hF.nodup_iff.2 ?_
    rw [← allZ_di]; exact (List.nodup_append.1 h1).1
  · obtain ⟨d, hd, rfl⟩ := List.mem_map.1 hq
    refine ⟨hY (fun e he => H.diAt (List.mem_append.2 (.inl he))) d hd, fun b hb => ?_⟩
    refine (MemZ.lt H1 b ?_).2
    rw [allZ_app, allZ_di]
    exact List.mem_append.2 (.inl (hF.mem_iff.1 (List.mem_flatMap.2 ⟨d, hd, hb⟩)))

theorem Mem.addOwn (H : Mem w0 S M R D I w) {w' : World} (hb : Below w.heap.size w w') {X : List DI} (hn : (X.flatMap DI.F).Nodup) (hX : ∀ d ∈ X, d.p.pred w' (· ∈ d.F)) (hl : ∀ b ∈ X.flatMap DI.F, w.heap.size ≤ b ∧ b < w'.heap.size) : Mem w0 S M R (X ++ D) I w' := by
  refine MemZ.perm (MemZ.step (rs := []) (rs' := X.map DI.res) H ⟨hb.os, hb.tape, hb.output, hb.size, fun k hk' _ => hb.block k hk'⟩ (fun b h => .inr (hl b (by rwa [allZ_di] at h))) (fun b h => by rw [fmZ_di] at h; cases h) (by rwa [allZ_di]) (fun _ q hq => ?_)) (zsD_app X).symm
  obtain ⟨d, hd, rfl⟩ := List.mem_map.1 hq
  exact ⟨hX d hd, fun b h => (hl b (List.mem_flatMap.2 ⟨d, hd, h⟩)).2⟩

def Row.tightB (r : Row) : Bool := match r.k with | .ow _ => true | .sh _ => GoTy.flat r.α
theorem Row.tight {r : Row} (h : r.tightB = true) : r.res.tight := by
  intro w T T' ⟨cells, ho, hf, he⟩
  refine ⟨cells, ho, hf, fun i x hx => ?_⟩
  have h1 := he i x hx
  unfold Row.tightB at h
  cases hk : r.k with
  | ow Fs => rw [hk] at h1; exact h1
  | sh f =>
    rw [hk] at h1 h
    exact GoTy.mono (GoTy.own_rep (GoTy.own_flat h h1)) fun b hb _ => by cases hb
theorem zs_tight (hR : R.all Row.tightB = true) : ∀ q ∈ zs M R D, q.tight := by
  intro q hq
  rcases List.mem_append.1 hq with h | h
  · obtain ⟨m, _, rfl⟩ := List.mem_map.1 h; exact m.tight
  · rcases List.mem_append.1 h with h | h
    · obtain ⟨r, hr, rfl⟩ := List.mem_map.1 h; exact Row.tight (List.all_eq_true.1 hR r hr)
    · obtain ⟨d, _, rfl⟩ := List.mem_map.1 h; exact d.tight

theorem Mem.thaw {α : Type} [GoTy α] {F : List Nat} {A : Option Addr} {len cap : Nat} {xs : List α} (H : Mem w0 S M R (⟨F, MP.own F [.slice A len cap] xs⟩ :: D) I w) (hR : R.all Row.tightB = true) :
    ∃ Fs E, Mem w0 S M (⟨.ow Fs, E, A, cap, xs⟩ :: R) D [] w ∧ F = (Value.slice A xs.length cap).ownBlock.toList ++ List.flatten Fs := by
  obtain ⟨⟨A', cap', E, cells, Fs, hcs, ho, hF, hl, he⟩, -⟩ := H.diAt (d := ⟨F, MP.own F [.slice A len cap] xs⟩) (by simp)
  simp only [List.cons.injEq, Value.slice.injEq, and_true] at hcs
  obtain ⟨rfl, rfl, rfl⟩ := hcs
  refine ⟨Fs, E, ?_, hF⟩
  have H1 := MemZ.perm H (zsD_cons _)
  have e1 : allZ [Row.res ⟨.ow Fs, E, A, cap, xs⟩] = F := by rw [allZ_one, hF]; rfl
  have e2 : ∀ e : DI, allZ [e.res] = e.F := fun e => by rw [allZ_one]; rfl
  refine MemZ.perm (MemZ.turn (rs := [DI.res ⟨F, MP.own F [.slice A xs.length cap] xs⟩]) (rs' := [Row.res ⟨.ow Fs, E, A, cap, xs⟩]) H1 (Chg.refl _ _) (fun b hb => .inl (by rw [e1] at hb; rw [e2]; exact hb)) ?_ (zs_tight hR) (fun q hq => ?_)) (zsR_cons _).symm
  · have h1 := MemZ.nd H1
    rw [allZ_app, e2] at h1
    rw [e1]; exact (List.nodup_append.1 h1).1
  · rw [List.mem_singleton] at hq; subst hq
    exact ⟨cells, ho, hl, fun i x hx Fi hFi => he i x Fi hx hFi⟩
theorem rep_true {α : Type} [GoTy α] {T : Nat → Prop} {cs : List Value} {x : α} (h : GoTy.rep w T cs x) : GoTy.rep w (fun _ => True) cs x := GoTy.mono h fun b _ _ => ⟨trivial, rfl⟩
theorem rep_weak {α : Type} [GoTy α] {cs : List Value} {x : α} {f : Bool} (h : GoTy.rep w (St w0 S M R D f) cs x) : GoTy.rep w (St w0 S M R D false) cs x := GoTy.mono h fun b hb _ => by
  refine ⟨?_, rfl⟩
  rcases hb with ⟨rfl, h1, h2⟩ | h
  · exact .inl ⟨rfl, h1, h2⟩
  · exact .inr h
theorem Mem.pushNil (H : Mem w0 S M R D I w) (α : Type) [GoTy α] (f : Bool) : Mem w0 S M R D ((f, MP.val [.slice none 0 0] ([] : List α)) :: I) w :=
  H.push _ ⟨none, 0, rfl, Nat.le_refl _, by simp [maxLen], fun i x hx => by simp at hx⟩

def evp (L : List (Nat × Value)) : List (Nat × Operand) → Option (List (Nat × Value))
  | [] => some []
  | (i, x) :: r => (ev L x).bind fun v => (evp L r).map ((i, v) :: ·)
theorem Fr.evalp (hf : Fr a n L) : ∀ {ps : List (Nat × Operand)} {qs : List (Nat × Value)}, evp L ps = some qs → ps.map (fun p => (p.1, a.eval p.2)) = qs
  | [], qs, h => by simp [evp] at h; simp [h]
  | (i, x) :: r, qs, h => by
    simp only [evp, Option.bind_eq_some_iff, Option.map_eq_some_iff] at h
    obtain ⟨v, hv, us, hus, rfl⟩ := h
    simp [hf.eval hv, hf.evalp hus]
theorem el0 {α : Type} [GoTy α] {T : Nat → Prop} {cells : List Value} : ∀ i (x : α), ([] : List α)[i]? = some x → GoTy.rep w T ((cells.drop (i * GoTy.n α)).take (GoTy.n α)) x := by intro i x h; simp at h
theorem el1 {α : Type} [GoTy α] {T : Nat → Prop} {cells : List Value} {y : α} (h : GoTy.rep w T cells y) : ∀ i (x : α), [y][i]? = some x → GoTy.rep w T ((cells.drop (i * GoTy.n α)).take (GoTy.n α)) x := by
  intro i x hx
  cases i with
  | zero =>
    simp only [List.getElem?_cons_zero, Option.some.injEq] at hx
    subst hx
    rw [Nat.zero_mul, List.drop_zero, List.take_of_length_le (by rw [GoTy.len h]; exact Nat.le_refl _)]
    exact h
  | succ i => simp at hx
theorem elI {T : Nat → Prop} (ys : List Int) : ∀ i (x : Int), ys[i]? = some x → GoTy.rep w T (((ys.map (Value.int .i64)).drop (i * 1)).take 1) x := by
  intro i x hx
  show _ = _
  rw [Nat.mul_one, ← List.map_drop]
  obtain ⟨hl, he⟩ := List.getElem?_eq_some_iff.1 hx
  rw [List.drop_eq_getElem_cons hl, he]
  rfl

theorem op_bslice (hf : Fr a n L) (H : Mem w0 S M R D I w) {α : Type} [GoTy α] (kd : Kd) (hk0 : kd.fd = []) (E : TypeId) {T : TypeId} {m : Nat} {ps : List (Nat × Operand)} (xs : List α) (cells : List Value) {qs : List (Nat × Value)}
    (hp0 : evp L ps = some qs) (hb : ∀ w, (Instr.buildSlice T m qs.toArray).run P w = .ok (.slice (some ⟨w.heap.size, 0, none⟩) m m) (w.alloc (.cells cells.toArray E))) (hm : xs.length = m) (hmax : m ≤ 1099511627776)
    (hlen : cells.length = m * GoTy.n α) (hfit : kd.fits m) (hel : ∀ i x, xs[i]? = some x → kd.holds w (St w0 S M R D kd.fresh) i (part' α cells i) x) (hdn : d < n)
    (k : ∀ A a' w', Fr a' n ((d, .slice A m m) :: L) → Mem w0 S M (⟨kd, E, A, m, xs⟩ :: R) D I w' → K a' w') : Oper.wp P ⟨some d, .buildSlice T m ps.toArray, ty, pos, af, g⟩ a w K Q := by
  have hp := hf.evalp hp0
  have h1 : (execOp a.eval ⟨some d, .buildSlice T m ps.toArray, ty, pos, af, g⟩).run P w = .ok (.value (.slice (some ⟨w.heap.size, 0, none⟩) m m)) (w.alloc (.cells cells.toArray E)) := by
    have e : (ps.toArray.map fun p => (p.1, a.eval p.2)) = qs.toArray := by rw [List.map_toArray, hp]
    simp only [execOp]
    rw [show (ps.toArray.map fun x => match x with | (i, x) => (i, a.eval x)) = qs.toArray from e]
    simp [hb]
  unfold Oper.wp
  rw [h1, Oper.upon_value]
  exact k _ _ _ (hf.put hdn _) (H.newRow kd hk0 E xs cells m (by omega) (by simp only [maxLen]; omega) hlen (by rw [hm]; exact hfit) hel)

theorem op_bsliceO (hf : Fr a n L) {α : Type} [GoTy α] (E : TypeId) {T : TypeId} {ps : List (Nat × Operand)} {F : List Nat} {x : α} {cells : List Value} {qs : List (Nat × Value)} (H : Mem w0 S M R (⟨F, MP.own F cells x⟩ :: D) I w)
    (hp0 : evp L ps = some qs) (hb : ∀ w, (Instr.buildSlice T 1 qs.toArray).run P w = .ok (.slice (some ⟨w.heap.size, 0, none⟩) 1 1) (w.alloc (.cells cells.toArray E))) (hdn : d < n)
    (k : ∀ A a' w', Fr a' n ((d, .slice A 1 1) :: L) → Mem w0 S M (⟨.ow [F], E, A, 1, [x]⟩ :: R) D I w' → K a' w') : Oper.wp P ⟨some d, .buildSlice T 1 ps.toArray, ty, pos, af, g⟩ a w K Q := by
  have hp := hf.evalp hp0
  have h1 : (execOp a.eval ⟨some d, .buildSlice T 1 ps.toArray, ty, pos, af, g⟩).run P w = .ok (.value (.slice (some ⟨w.heap.size, 0, none⟩) 1 1)) (w.alloc (.cells cells.toArray E)) := by
    have e : (ps.toArray.map fun p => (p.1, a.eval p.2)) = qs.toArray := by rw [List.map_toArray, hp]
    simp only [execOp]
    rw [show (ps.toArray.map fun x => match x with | (i, x) => (i, a.eval x)) = qs.toArray from e]
    simp [hb]
  unfold Oper.wp
  rw [h1, Oper.upon_value]
  refine k _ _ _ (hf.put hdn _) ?_
  have hd := (H.diAt (d := ⟨F, MP.own F cells x⟩) (by simp)).1
  have hlen : cells.length = GoTy.n α := GoTy.len (GoTy.own_rep hd)
  have H1 := MemZ.perm H (zsD_cons _)
  have hnd := MemZ.nd H1
  rw [allZ_app, allZ_one] at hnd
  have hFn : F.Nodup := by simpa [Res.all, DI.res] using (List.nodup_append.1 hnd).1
  have hFl : ∀ b ∈ F, b < w.heap.size := fun b hb => (MemZ.lt H1 b (by rw [allZ_app, allZ_one]; exact List.mem_append.2 (.inl (List.mem_append.2 (.inr hb))))).2
  have e2 : (Row.res ⟨.ow [F], E, some ⟨w.heap.size, 0, none⟩, 1, [x]⟩).all = w.heap.size :: F := by
    show [w.heap.size] ++ List.flatten [F] = _
    simp
  refine MemZ.perm (MemZ.step (rs' := [Row.res ⟨.ow [F], E, some ⟨w.heap.size, 0, none⟩, 1, [x]⟩]) H1 (Chg.alloc _ _ _) (fun b hb => ?_) (fun b hb => ?_) ?_ (fun hm q hq => ?_)) (zsR_cons _).symm
  · rw [allZ_one, e2] at hb
    rw [allZ_one]
    rcases List.mem_cons.1 hb with rfl | h
    · exact .inr ⟨Nat.le_refl _, by simp⟩
    · exact .inl (List.mem_append.2 (.inr h))
  · rw [fmZ_one] at hb
    have : b = w.heap.size := by simpa [Row.res, Row.v, Value.ownBlock] using hb
    exact .inr (by omega)
  · rw [allZ_one, e2]
    exact List.nodup_cons.2 ⟨fun h => by have := hFl _ h; omega, hFn⟩
  · rw [List.mem_singleton] at hq; subst hq
    refine ⟨cells, ⟨by simpa using hlen, .inr ⟨w.heap.size, 1, cells.toArray, rfl, Nat.zero_le _, heap_alloc_new w _, Nat.le_refl _, by simp [maxLen], by simpa using hlen, by rw [show [x].length * GoTy.n α = cells.length by simp [hlen]]; exact List.take_length⟩⟩, rfl, fun i e hi Fi hFi => ?_⟩
    cases i with
    | succ i => simp at hi
    | zero =>
      simp only [List.getElem?_cons_zero, Option.some.injEq] at hi hFi
      subst hi hFi
      have : part' α cells 0 = cells := by unfold part'; rw [Nat.zero_mul, List.drop_zero, List.take_of_length_le (by omega)]
      rw [this]
      exact GoTy.own_mono hd fun b hb => Below.heap_alloc _ _ _ (hFl b hb)

theorem gather {α : Type} [GoTy α] {T : Nat → Prop} {p : Addr} : ∀ (ys : List α) (o : Nat), (∀ i x, ys[i]? = some x → ElemAt α w T p (o + i) x) →
    ∃ news : List Value, news.length = ys.length * GoTy.n α ∧ (∀ j u, news[j]? = some u → w.cell? (p.add (o * GoTy.n α + j)) = some u) ∧ (∀ u ∈ news, u.oneCell' = true) ∧
      ∀ i x, ys[i]? = some x → GoTy.rep w T ((news.drop (i * GoTy.n α)).take (GoTy.n α)) x
  | [], o, _ => ⟨[], by simp, by simp, by simp, by simp⟩
  | y :: ys, o, h => by
    obtain ⟨news, h1, h2, h3, h4⟩ := gather ys (o + 1) (fun i x hx => by have := h (i + 1) x (by simpa using hx); rwa [show o + (i + 1) = o + 1 + i by omega] at this)
    obtain ⟨cs, hc, hr⟩ := h 0 y rfl
    have hl := GoTy.len hr
    refine ⟨cs ++ news, by simp [hl, h1, Nat.add_mul, Nat.add_comm], fun j u hj => ?_, fun u hu => (List.mem_append.1 hu).elim (GoTy.one hr u) (h3 u), fun i x hx => ?_⟩
    · rw [List.getElem?_append] at hj
      split at hj
      · exact hc j u hj
      · have := h2 _ u hj
        rw [show (o + 1) * GoTy.n α + (j - cs.length) = o * GoTy.n α + j by rw [Nat.add_mul]; omega] at this
        exact this
    · cases i with
      | zero =>
        simp only [List.getElem?_cons_zero, Option.some.injEq] at hx
        subst hx
        simp only [Nat.zero_mul, List.drop_zero]
        rw [List.take_append_of_le_length (by omega), List.take_of_length_le (by omega)]
        exact hr
      | succ i =>
        have := h4 i x (by simpa using hx)
        have e : (cs ++ news).drop ((i + 1) * GoTy.n α) = news.drop (i * GoTy.n α) := by
          rw [Nat.add_mul, Nat.one_mul, Nat.add_comm, ← hl, List.drop_append]
          simp
        rw [e]
        exact this

theorem part_app1 {α : Type} [GoTy α] {cells news : List Value} {m i : Nat} (hc : cells.length = m * GoTy.n α) (hi : i < m) : part' α (cells ++ news) i = part' α cells i := by
  unfold part'
  have hle : i * GoTy.n α + GoTy.n α ≤ cells.length := by
    rw [hc]
    have := Nat.mul_le_mul_right (GoTy.n α) (show i + 1 ≤ m from hi)
    rwa [Nat.succ_mul] at this
  rw [List.drop_append_of_le_length (by omega), List.take_append_of_le_length (by rw [List.length_drop]; omega)]
theorem part_app2 {α : Type} [GoTy α] {cells news : List Value} {m i : Nat} (hc : cells.length = m * GoTy.n α) (hi : m ≤ i) : part' α (cells ++ news) i = part' α news (i - m) := by
  unfold part'
  rw [List.drop_append, List.drop_eq_nil_of_le (by rw [hc]; exact Nat.mul_le_mul_right _ hi), List.nil_append, hc, Nat.sub_mul]

theorem run_append_room_any (w : World) (t ty e e0 : TypeId) (i : TypeInfo) (ht : P.underlying t = some (.slice e)) (hi : P.info? e = some i) (g sLen sCap : Nat) (cur : Array Value) (hg : w.heap[g]? = some (.cells cur e0 (0, 0)))
    (a : Addr) (m c : Nat) (news : List Value) (hl : news.length = m * i.size) (hnews : ∀ j u, news[j]? = some u → w.cell? (a.add j) = some u) (h1 : ∀ u ∈ news, u.oneCell' = true) (hroom : sLen + m ≤ sCap) (hfit : sLen * i.size + news.length ≤ cur.size) :
    (Builtin.append_ #[t, t] ty #[.slice (some ⟨g, 0, none⟩) sLen sCap, .slice (some a) m c]).run P w =
      .ok (.slice (some ⟨g, 0, none⟩) (sLen + m) sCap) (w.setRow g (cur.toList.take (sLen * i.size) ++ news ++ cur.toList.drop (sLen * i.size + news.length)).toArray) := by
  have hf := run_firstCells_some (P := P) w i.size m a m c news hl hnews
  have hst := run_storeCells_at P g (sLen * i.size) e0 news 0 cur w hg (by simpa using hfit) h1
  simp only [Nat.add_zero] at hst
  simp [Builtin.append_, run_underlying ht, Go.sizeOf, typeInfo, hi, Builtin.lenOf, hroom, hf, Addr.add_lit, hst]
theorem run_append_any (w : World) (t ty e e0 : TypeId) (i : TypeInfo) (z : Value) (size bytes : Nat) (ht : P.underlying t = some (.slice e)) (hi : P.info? e = some i) (hz : i.zero = some z)
    (hsize : i.size = size) (hby : i.bytes = bytes) (hzs : z.cells.size = size) (hsz : 0 < size) (v : Value) (n : Nat) (xs : List Value) (hown : w.ownsRow 0 e0 size v n xs)
    (a : Addr) (m c : Nat) (news : List Value) (hl : news.length = m * size) (hnews : ∀ j u, news[j]? = some u → w.cell? (a.add j) = some u) (h1 : ∀ u ∈ news, u.oneCell' = true)
    (h63 : n + m ≤ maxLen) (hbytes : (n + m) * bytes ≤ 140737488355328) :
    ∃ e1 v' w', (Builtin.append_ #[t, t] ty #[v, .slice (some a) m c]).run P w = .ok v' w' ∧ w'.ownsRow 0 e1 size v' (n + m) (xs ++ news) ∧ w.grownBy w' v.ownBlock ∧ (v'.ownBlock = v.ownBlock ∨ v'.ownBlock = some w.heap.size) := by
  rcases hown.2 with ⟨rfl, rfl⟩ | ⟨g, cap, cur, rfl, hbg, hg, hnc, hcm, hcs, htake⟩
  · have hx : xs = [] := List.eq_nil_of_length_eq_zero (by simpa using hown.1)
    subst hx
    obtain ⟨v', w', g1, g2, g3, _, g5⟩ := run_append_own_at (P := P) w 0 t ty e i z size bytes ht hi hz hsize hby hzs hsz (.slice none 0 0) 0 [] (World.ownsRow_nil _ _ _ _) a m c news hl hnews h1 h63 hbytes (Nat.zero_le _)
    exact ⟨e, v', w', g1, g2, g3, g5⟩
  · subst hsize
    subst hby
    have hlen : (xs ++ news).length = (n + m) * i.size := by rw [List.length_append, hown.1, hl, Nat.add_mul]
    by_cases hroom : n + m ≤ cap
    · have hfit : n * i.size + news.length ≤ cur.size := by rw [hl, hcs, ← Nat.add_mul]; exact Nat.mul_le_mul_right _ hroom
      have hr := run_append_room_any (P := P) w t ty e e0 i ht hi g n cap cur hg a m c news hl hnews h1 hroom hfit
      refine ⟨e0, _, _, hr, ⟨hlen, .inr ⟨g, cap, _, rfl, hbg, setRow_heap w g cur _ e0 _ hg, hroom, hcm, ?_, ?_⟩⟩, ⟨rfl, rfl, rfl, by simp, fun k _ hk => setRow_other w g k _ (fun e => hk (by simp [Value.ownBlock, e]))⟩, Or.inl rfl⟩
      · simp only [List.size_toArray, List.length_append, List.length_take, List.length_drop, Array.length_toList]
        omega
      · rw [htake, ← hlen]
        exact List.take_left
    · have holds : ∀ j u, xs[j]? = some u → w.cell? ((⟨g, 0, none⟩ : Addr).add j) = some u := hown.cells (g := g) rfl
      have hsmall : n + m ≤ 9223372036854775807 := by simp only [maxLen] at h63; omega
      have hr := run_append_grow (P := P) w t ty e i z ht hi hz ⟨g, 0, none⟩ n cap xs hown.1 holds a m c news hl hnews (by omega) (by omega) (growslice_fits (by omega) hbytes)
      have hge := grownCap_ge w (n + m) cap e
      have hcm : grownCap w (n + m) cap e ≤ maxLen := grownCap_le_maxLen w (n + m) cap e h63
      refine ⟨e, _, _, hr, ⟨hlen, .inr ⟨w.heap.size, _, _, rfl, Nat.zero_le _, heap_alloc_new w.drew _, hge, hcm, ?_, ?_⟩⟩, ⟨rfl, rfl, rfl, by simp, fun k hk _ => heap_alloc_old w.drew _ hk⟩, Or.inr rfl⟩
      · simp only [Array.size_append, List.size_toArray, size_zeroCells, hzs, hown.1, hl, ← Nat.add_mul]
        congr 1
        omega
      · simp only [Array.toList_append, List.append_assoc]
        rw [← List.append_assoc, ← hlen]
        exact List.take_left

theorem run_app {α : Type} [GoTy α] {T E E0 ty' : TypeId} {z : Value} {bytes : Nat} (hT : P.underlying T = some (.slice E)) (hE : AI P E (GoTy.n α) z bytes) (hz : z.cells.size = GoTy.n α) (hby : bytes ≤ 128) {A : Option Addr} {cap : Nat} {xs ys zs : List α} {cells : List Value}
    (ho : w.ownsRow 0 E0 (GoTy.n α) (.slice A xs.length cap) xs.length cells) (happ : app xs ys = some zs) {A' : Option Addr} {c : Nat} (hsrc : lrep w (fun _ => True) [.slice A' ys.length c] ys) :
    ∃ E1 A2 cap2 w' news, (Builtin.append_ #[T, T] ty' #[.slice A xs.length cap, .slice A' ys.length c]).run P w = .ok (.slice A2 zs.length cap2) w' ∧ w'.ownsRow 0 E1 (GoTy.n α) (.slice A2 zs.length cap2) zs.length (cells ++ news) ∧ w.grownBy w' (Value.slice A xs.length cap).ownBlock ∧
      ((Value.slice A2 zs.length cap2).ownBlock = (Value.slice A xs.length cap).ownBlock ∨ ((Value.slice A2 zs.length cap2).ownBlock = some w.heap.size ∧ w.heap.size < w'.heap.size)) ∧ news.length = ys.length * GoTy.n α ∧
      (∀ p, A' = some p → ∀ j u, news[j]? = some u → w.cell? (p.add j) = some u) ∧ zs = xs ++ ys := by
  unfold app at happ
  split at happ
  case isFalse => cases happ
  rename_i hlen
  injection happ with happ
  subst happ
  obtain ⟨inf, hinf, hpr⟩ := Option.map_eq_some_iff.1 hE
  simp only [Prod.mk.injEq] at hpr
  obtain ⟨hz1, hz2, hz3⟩ := hpr
  obtain ⟨A'', c'', hcs, hyc, hcm, hel⟩ := hsrc
  simp only [List.cons.injEq, Value.slice.injEq, and_true] at hcs
  obtain ⟨rfl, -, rfl⟩ := hcs
  cases A' with
  | none =>
    have hy : ys = [] := by
      cases ys with
      | nil => rfl
      | cons y ys =>
        obtain ⟨p, hp, _⟩ := hel 0 y rfl
        cases hp
    subst hy
    simp only [List.append_nil]
    refine ⟨E0, A, cap, w, [], ?_, by simpa using ho, ⟨rfl, rfl, rfl, Nat.le_refl _, fun _ _ _ => rfl⟩, .inl rfl, by simp, by simp, trivial⟩
    rcases ho.2 with ⟨hv, h0⟩ | ⟨b, cap', cur, hv, _, _, hnc, _⟩
    · simp only [Value.slice.injEq] at hv
      obtain ⟨rfl, hv2, rfl⟩ := hv
      simp [Builtin.append_, run_underlying hT, Go.sizeOf, typeInfo, hinf, Builtin.lenOf, Builtin.firstCells, hv2]
    · simp only [Value.slice.injEq] at hv
      obtain ⟨rfl, -, rfl⟩ := hv
      simp [Builtin.append_, run_underlying hT, Go.sizeOf, typeInfo, hinf, Builtin.lenOf, Builtin.firstCells, hnc, storeCells]
  | some p =>
    obtain ⟨news, g1, g2, g3, _⟩ := gather (w := w) (T := fun _ => True) (p := p) ys 0 (fun k x hx => by
      obtain ⟨p', hp', _, h⟩ := hel k x hx
      injection hp' with hp'; subst hp'
      rwa [Nat.zero_add])
    simp only [Nat.zero_mul, Nat.zero_add] at g2
    have hbytes : (xs.length + ys.length) * bytes ≤ 140737488355328 := by
      have := Nat.mul_le_mul hlen hby
      omega
    obtain ⟨E1, v', w', hr, h1, h2, h4⟩ := run_append_any (P := P) w T ty' E E0 inf z (GoTy.n α) bytes hT hinf hz1 hz2 hz3 hz (GoTy.pos (α := α)) _ xs.length cells ho p ys.length c news g1 g2 g3 (by simp only [maxLen]; omega) hbytes
    have hform : ∃ A2 cap2, v' = .slice A2 (xs ++ ys).length cap2 := by
      rcases h1.2 with ⟨rfl, h0⟩ | ⟨b, cap', cur, rfl, _⟩
      · exact ⟨none, 0, by rw [List.length_append, h0]⟩
      · exact ⟨some ⟨b, 0, none⟩, cap', by rw [List.length_append]⟩
    obtain ⟨A2, cap2, rfl⟩ := hform
    refine ⟨E1, A2, cap2, w', news, hr, by rw [List.length_append] at h1 ⊢; exact h1, h2, h4.imp id fun h => ⟨h, (h1.lt _ h).2⟩, g1, fun q hq => by injection hq with hq; subst hq; exact g2, rfl⟩

theorem Mem.append (H : Mem w0 S M R D I w) {α : Type} [GoTy α] {T E E0 ty' : TypeId} {z : Value} {bytes : Nat} (hT : P.underlying T = some (.slice E)) (hE : AI P E (GoTy.n α) z bytes) (hz : z.cells.size = GoTy.n α) (hby : bytes ≤ 128) (i : Nat) {fr : Bool} {A : Option Addr} {cap : Nat} {xs ys zs : List α}
    (hi : R[i]? = some ⟨.sh fr, E0, A, cap, xs⟩) (happ : app xs ys = some zs) {A' : Option Addr} {c : Nat}
    (hsrc : lrep w (fun _ => True) [.slice A' ys.length c] ys) (hrep : (∀ (p : Addr) (news : List Value), A' = some p → news.length = ys.length * GoTy.n α → (∀ j u, news[j]? = some u → w.cell? (p.add j) = some u) → ∀ i x, ys[i]? = some x → GoTy.rep w (St w0 S M R D fr) (part' α news i) x)) :
    ∃ E1 A2 cap2 w', (Builtin.append_ #[T, T] ty' #[.slice A xs.length cap, .slice A' ys.length c]).run P w = .ok (.slice A2 zs.length cap2) w' ∧ Mem w0 S M (R.set i ⟨.sh fr, E1, A2, cap2, zs⟩) D I w' := by
  obtain ⟨cells, ho, hf, he⟩ := H.rowAt (List.mem_of_getElem? hi)
  obtain ⟨E1, A2, cap2, w', news, hr, h1, h2, h4, g1, g2, rfl⟩ := run_app (ty' := ty') hT hE hz hby ho happ hsrc
  refine ⟨E1, A2, cap2, w', hr, H.reRow hi h2 h4 (List.Perm.refl _) fun hm => ⟨cells ++ news, h1, trivial, fun k x hx => ?_⟩⟩
  have hcl : cells.length = xs.length * GoTy.n α := ho.1
  simp only at hx
  rw [List.getElem?_append] at hx
  split at hx
  · rename_i hk
    show GoTy.rep _ _ _ _
    rw [part_app1 hcl hk]
    exact GoTy.mono (show GoTy.rep w _ _ x from he k x hx) (hm _)
  · rename_i hk
    show GoTy.rep _ _ _ _
    rw [part_app2 hcl (by omega)]
    cases A' with
    | none =>
      obtain ⟨_, _, hcs, _, _, hel⟩ := hsrc
      obtain ⟨p, hp, _⟩ := hel _ x hx
      simp only [List.cons.injEq, Value.slice.injEq, and_true] at hcs
      rw [← hcs.1] at hp; cases hp
    | some p => exact GoTy.mono (hrep p news rfl g1 (g2 p rfl) _ x hx) (hm _)

theorem op_append_of (hf : Fr a n L) {T : TypeId} {x y : Operand} {v u : Value} (hx : ev L x = some v) (hy : ev L y = some u) {r : Value} {w' : World} (hr : (Builtin.append_ #[T, T] ty #[v, u]).run P w = .ok r w') (hdn : d < n)
    (k : ∀ a', Fr a' n ((d, r) :: L) → K a' w') : Oper.wp P ⟨some d, .call ⟨.builtin .append, #[x, y], #[T, T]⟩, ty, pos, af, g⟩ a w K Q := by
  have h1 : (execOp a.eval ⟨some d, .call ⟨.builtin .append, #[x, y], #[T, T]⟩, ty, pos, af, g⟩).run P w = .ok (.value r) w' := by
    simp [execOp, resolve, invoke, builtin, hf.eval hx, hf.eval hy, hr]
  unfold Oper.wp
  rw [h1, Oper.upon_value]
  exact k _ (hf.put hdn _)

theorem row_news {α : Type} [GoTy α] {E : TypeId} {p : Addr} {cap : Nat} {ys : List α} {cells news : List Value} (ho : w.ownsRow 0 E (GoTy.n α) (.slice (some p) ys.length cap) ys.length cells) (hl : news.length = ys.length * GoTy.n α)
    (hc : ∀ j u, news[j]? = some u → w.cell? (p.add j) = some u) : news = cells := by
  have hob : (Value.slice (some p) ys.length cap).ownBlock = some p.block := rfl
  have hp0 : p = ⟨p.block, 0, none⟩ := by
    rcases ho.2 with ⟨hv, _⟩ | ⟨b, c2, cur, hv, _⟩
    · simp only [Value.slice.injEq] at hv; cases hv.1
    · simp only [Value.slice.injEq] at hv; injection hv.1 with h; rw [h]
  apply List.ext_getElem?
  intro t
  have h1 : cells.length = ys.length * GoTy.n α := ho.1
  by_cases ht : t < ys.length * GoTy.n α
  · have h2 := ho.cells hob t _ (List.getElem?_eq_getElem (by omega))
    have h3 := hc t _ (List.getElem?_eq_getElem (by omega))
    rw [← hp0, h3] at h2
    rw [List.getElem?_eq_getElem (by omega), List.getElem?_eq_getElem (by omega)]
    exact h2
  · rw [List.getElem?_eq_none (by omega), List.getElem?_eq_none (by omega)]

theorem op_appR (hf : Fr a n L) (H : Mem w0 S M R D I w) {α : Type} [GoTy α] {T E E0 E' : TypeId} {z : Value} {bytes : Nat} (hT : P.underlying T = some (.slice E)) (hE : AI P E (GoTy.n α) z bytes) (hz : z.cells.size = GoTy.n α) (hby : bytes ≤ 128) (i j : Nat) {fr fr' : Bool} {A A' : Option Addr} {cap cap' : Nat} {xs ys zs : List α}
    {x y : Operand} (hx : ev L x = some (.slice A xs.length cap)) (hy : ev L y = some (.slice A' ys.length cap')) (hi : R[i]? = some ⟨.sh fr, E0, A, cap, xs⟩) (hj : R[j]? = some ⟨.sh fr', E', A', cap', ys⟩) (hfr : fr = false ∨ fr' = true) (happ : app xs ys = some zs) (hdn : d < n)
    (k : ∀ E1 A2 cap2 a' w', Fr a' n ((d, .slice A2 zs.length cap2) :: L) → Mem w0 S M (R.set i ⟨.sh fr, E1, A2, cap2, zs⟩) D I w' → K a' w') : Oper.wp P ⟨some d, .call ⟨.builtin .append, #[x, y], #[T, T]⟩, ty, pos, af, g⟩ a w K Q := by
  obtain ⟨E1, A2, cap2, w', hr, H2⟩ := H.append (ty' := ty) hT hE hz hby i hi happ (H.rowTrue j hj) (fun p news hp hl hc q e hq => by
    obtain ⟨cells, ho, _, he⟩ := H.rowAt (List.mem_of_getElem? hj)
    subst hp
    obtain rfl := row_news ho hl hc
    have h5 : GoTy.rep w (St w0 S M R D fr') _ e := he q e hq
    rcases hfr with rfl | rfl
    · exact rep_weak h5
    · cases fr
      · exact rep_weak h5
      · exact h5)
  exact op_append_of hf hx hy hr hdn fun a' hf' => k _ _ _ _ _ hf' H2

theorem op_appI (hf : Fr a n L) (H : Mem w0 S M R D I w) {α : Type} [GoTy α] {T E E0 : TypeId} {z : Value} {bytes : Nat} (hT : P.underlying T = some (.slice E)) (hE : AI P E (GoTy.n α) z bytes) (hz : z.cells.size = GoTy.n α) (hby : bytes ≤ 128) (i j : Nat) {fr f : Bool} {A A' : Option Addr} {cap len' cap' : Nat} {xs ys zs : List α}
    {x y : Operand} (hx : ev L x = some (.slice A xs.length cap)) (hy : ev L y = some (.slice A' len' cap')) (hi : R[i]? = some ⟨.sh fr, E0, A, cap, xs⟩) (hj : I[j]? = some (f, MP.val [.slice A' len' cap'] ys)) (hfr : fr = false ∨ f = true) (happ : app xs ys = some zs) (hdn : d < n)
    (k : ∀ E1 A2 cap2 a' w', Fr a' n ((d, .slice A2 zs.length cap2) :: L) → Mem w0 S M (R.set i ⟨.sh fr, E1, A2, cap2, zs⟩) D I w' → K a' w') : Oper.wp P ⟨some d, .call ⟨.builtin .append, #[x, y], #[T, T]⟩, ty, pos, af, g⟩ a w K Q := by
  have hl : lrep w (St w0 S M R D f) [.slice A' len' cap'] ys := H.get j hj
  obtain ⟨A'', c'', hcs, hyc, hcm, hel⟩ := id hl
  simp only [List.cons.injEq, Value.slice.injEq, and_true] at hcs
  obtain ⟨rfl, rfl, rfl⟩ := hcs
  obtain ⟨E1, A2, cap2, w', hr, H2⟩ := H.append (ty' := ty) hT hE hz hby i hi happ (rep_true (α := List α) hl) (fun p news hp hl' hc q e hq => by
    obtain ⟨news', g1, g2, g3, g4⟩ := gather (w := w) (T := St w0 S M R D f) (p := p) ys 0 (fun k x hx => by
      obtain ⟨p', hp', _, h⟩ := hel k x hx
      rw [hp] at hp'
      injection hp' with hp'; subst hp'
      rwa [Nat.zero_add])
    have hn : news = news' := by
      apply List.ext_getElem?
      intro t
      by_cases ht : t < ys.length * GoTy.n α
      · have h2 := g2 t _ (List.getElem?_eq_getElem (by omega))
        have h3 := hc t _ (List.getElem?_eq_getElem (by omega))
        rw [Nat.zero_mul, Nat.zero_add, h3] at h2
        rw [List.getElem?_eq_getElem (by omega), List.getElem?_eq_getElem (by omega)]
        exact h2
      · rw [List.getElem?_eq_none (by omega), List.getElem?_eq_none (by omega)]
    subst hn
    have h5 : GoTy.rep w (St w0 S M R D f) (part' α news q) e := g4 q e hq
    rcases hfr with rfl | rfl
    · exact rep_weak h5
    · cases fr
      · exact rep_weak h5
      · exact h5)
  exact op_append_of hf hx hy hr hdn fun a' hf' => k _ _ _ _ _ hf' H2

theorem op_appO {R : List Row} (hf : Fr a n L) {α : Type} [GoTy α] {T E E0 E' : TypeId} {z : Value} {bytes : Nat} {Fs Gs : List (List Nat)} {A A' : Option Addr} {cap cap' : Nat} {xs ys zs : List α}
    (H : Mem w0 S M (⟨.ow Fs, E0, A, cap, xs⟩ :: ⟨.ow Gs, E', A', cap', ys⟩ :: R) D I w) (hT : P.underlying T = some (.slice E)) (hE : AI P E (GoTy.n α) z bytes) (hz : z.cells.size = GoTy.n α) (hby : bytes ≤ 128)
    {x y : Operand} (hx : ev L x = some (.slice A xs.length cap)) (hy : ev L y = some (.slice A' ys.length cap')) (happ : app xs ys = some zs) (hdn : d < n)
    (k : ∀ E1 A2 cap2 a' w', Fr a' n ((d, .slice A2 zs.length cap2) :: L) → Mem w0 S M (⟨.ow (Fs ++ Gs), E1, A2, cap2, zs⟩ :: R) D I w' → K a' w') : Oper.wp P ⟨some d, .call ⟨.builtin .append, #[x, y], #[T, T]⟩, ty, pos, af, g⟩ a w K Q := by
  obtain ⟨cells, ho, hfit, he⟩ := H.rowAt (r := ⟨.ow Fs, E0, A, cap, xs⟩) (by simp)
  obtain ⟨cells', ho', hfit', he'⟩ := H.rowAt (r := ⟨.ow Gs, E', A', cap', ys⟩) (by simp)
  have hsrc : lrep w (fun _ => True) [.slice A' ys.length cap'] ys := H.rowTrue 1 rfl
  obtain ⟨E1, A2, cap2, w', news, hr, h1, h2, h4, g1, g2, rfl⟩ := run_app (ty' := ty) hT hE hz hby ho happ hsrc
  refine op_append_of hf hx hy hr hdn fun a' hf' => k E1 _ _ _ _ hf' ?_
  have hp : (zs M (⟨.ow Fs, E0, A, cap, xs⟩ :: ⟨.ow Gs, E', A', cap', ys⟩ :: R) D).Perm ([Row.res ⟨.ow Fs, E0, A, cap, xs⟩, Row.res ⟨.ow Gs, E', A', cap', ys⟩] ++ AT.zs M R D) := (zsR_cons _).trans ((zsR_cons _).append_left [_])
  have H1 := MemZ.perm H hp
  have hnd := MemZ.nd H1
  rw [allZ_app, allZ_two] at hnd
  have hnd' := (List.nodup_append.1 hnd).1
  have hlt : ∀ b ∈ allZ [Row.res ⟨.ow Fs, E0, A, cap, xs⟩, Row.res ⟨.ow Gs, E', A', cap', ys⟩], b < w.heap.size := fun b hb => (MemZ.lt H1 b (by rw [allZ_app]; exact List.mem_append.2 (.inl hb))).2
  have e0 : (Row.res ⟨.ow Fs, E0, A, cap, xs⟩).all = (Value.slice A xs.length cap).ownBlock.toList ++ List.flatten Fs := rfl
  have e1 : (Row.res ⟨.ow Gs, E', A', cap', ys⟩).all = (Value.slice A' ys.length cap').ownBlock.toList ++ List.flatten Gs := rfl
  have e2 : (Row.res ⟨.ow (Fs ++ Gs), E1, A2, cap2, xs ++ ys⟩).all = (Value.slice A2 (xs ++ ys).length cap2).ownBlock.toList ++ (List.flatten Fs ++ List.flatten Gs) := by
    show _ ++ List.flatten (Fs ++ Gs) = _
    rw [List.flatten_append]; rfl
  rw [e0, e1] at hnd'
  have hxg : ∀ b, b ∈ (Value.slice A2 (xs ++ ys).length cap2).ownBlock.toList → b ∈ (Value.slice A xs.length cap).ownBlock.toList ∨ (w.heap.size ≤ b ∧ b < w'.heap.size) := fun b hb => by
    rcases h4 with h | ⟨h, h'⟩
    · rw [h] at hb; exact .inl hb
    · rw [h] at hb; simp at hb; subst hb; exact .inr ⟨Nat.le_refl _, h'⟩
  have hflat : (List.flatten Fs ++ List.flatten Gs).Nodup := by
    refine List.Sublist.nodup ?_ hnd'
    exact (List.sublist_append_right _ _).append (List.sublist_append_right _ _)
  refine MemZ.perm (MemZ.step (rs' := [Row.res ⟨.ow (Fs ++ Gs), E1, A2, cap2, xs ++ ys⟩]) H1 ⟨h2.os, h2.tape, h2.output, h2.size, fun b hb hx => h2.block b hb fun e => hx ?_⟩ (fun b hb => ?_) (fun b hb => ?_) ?_ (fun hm q hq => ?_)) (zsR_cons _).symm
  · rw [fmZ_two]; exact List.mem_append.2 (.inl (by show b ∈ (Value.slice A xs.length cap).ownBlock.toList; rw [← e]; simp))
  · rw [allZ_one, e2] at hb
    rw [allZ_two, e0, e1]
    simp only [List.mem_append] at hb ⊢
    rcases hb with h | h | h
    · exact (hxg b h).imp (fun h => .inl (.inl h)) id
    · exact .inl (.inl (.inr h))
    · exact .inl (.inr (.inr h))
  · rw [fmZ_one] at hb; rw [fmZ_two]
    exact (hxg b hb).imp (fun h => List.mem_append.2 (.inl h)) (·.1)
  · rw [allZ_one, e2]
    rcases h4 with h | ⟨h, h'⟩
    · rw [h]
      refine List.Sublist.nodup ?_ hnd'
      rw [← List.append_assoc]
      exact (List.Sublist.refl _).append (List.sublist_append_right _ _)
    · rw [h]
      simp only [Option.toList_some, List.singleton_append, List.nodup_cons]
      refine ⟨fun hb => ?_, hflat⟩
      have := hlt w.heap.size (by
        rw [allZ_two, e0, e1]
        simp only [List.mem_append] at hb ⊢
        exact hb.imp .inr .inr)
      omega
  · rw [List.mem_singleton] at hq; subst hq
    have hsame : ∀ b, b ∈ List.flatten Fs ++ List.flatten Gs → w'.heap[b]? = w.heap[b]? := fun b hb => by
      refine h2.block b (hlt b ?_) fun e => ?_
      · rw [allZ_two, e0, e1]
        simp only [List.mem_append] at hb ⊢
        exact hb.imp .inr .inr
      · have hm : b ∈ (Value.slice A xs.length cap).ownBlock.toList := by rw [← e]; simp
        rw [List.append_assoc] at hnd'
        refine (List.nodup_append.1 hnd').2.2 b hm b ?_ rfl
        simp only [List.mem_append] at hb ⊢
        exact hb.imp id .inr
    refine ⟨cells ++ news, h1, by simp only [Kd.fits, List.length_append] at hfit hfit' ⊢; omega, fun i e hi Fi hFi => ?_⟩
    have hcl : cells.length = xs.length * GoTy.n α := ho.1
    have hfl : Fs.length = xs.length := hfit
    simp only at hi
    rw [List.getElem?_append] at hi hFi
    rw [hfl] at hFi
    split at hi
    · rename_i hlt'
      rw [if_pos hlt'] at hFi
      rw [part_app1 hcl hlt']
      exact GoTy.own_mono (he i e hi Fi hFi) fun b hb => hsame b (List.mem_append.2 (.inl (mem_fs hFi hb)))
    · rename_i hlt'
      rw [if_neg hlt'] at hFi
      rw [part_app2 hcl (by omega)]
      cases A' with
      | none =>
        obtain ⟨_, _, hcs, _, _, hel⟩ := hsrc
        obtain ⟨p, hp, _⟩ := hel _ e hi
        simp only [List.cons.injEq, Value.slice.injEq, and_true] at hcs
        rw [← hcs.1] at hp; cases hp
      | some p =>
        obtain rfl := row_news ho' g1 (g2 p rfl)
        exact GoTy.own_mono (he' _ e hi Fi hFi) fun b hb => hsame b (List.mem_append.2 (.inr (mem_fs hFi hb)))
end
end AT

